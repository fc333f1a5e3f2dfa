/- What holds together contradicts where the settings differ; the law ConflictsNone by its own run. -/
import Derived.Test.YthdimnlkcgchoaaGreatVX
namespace Go.Proofs.YthdimnlkcgchoaaGreat
set_option linter.unusedSectionVars false
set_option linter.unusedSimpArgs false
set_option linter.unusedVariables false
set_option maxRecDepth 100000
def Sat (c:Cnd) (y:Int):Prop:=if c.cb=true then y < c.cl else c.cl≤y
theorem net_nodeZ {n:Net} (h:netB n=true) (i:Nat) (hi:i < n.nds.length):nodeZ n n.nds[i].nn=(i:Int):=by
  simp only [netB,Bool.and_eq_true] at h
  have:=allI_iff.1 h.2.2.1 i _ (List.getElem?_eq_getElem hi)
  simp only [nodeBad,Bool.not_eq_true',Bool.or_eq_false_iff,Nat.zero_add] at this
  simpa using this.2
theorem holds_sat {n:Net} (hb:netB n=true) {v:List Int} {w:List Cnd} (h:holdN (namesL n) v w=true) (c:Cnd) (hc:c∈w) (j:Nat) (hj:j < n.nds.length) (hj':j < v.length) (hn:n.nds[j].nn=c.cn):Sat c v[j]:=by
  unfold holdN at h
  rw [Bool.not_eq_true',List.any_eq_false] at h
  have h1:=h c hc
  rw [Bool.not_eq_true] at h1
  unfold failsN at h1
  have e:findZ (fun x=>x == c.cn) 0 (namesL n)=(j:Int):=by
    unfold namesL
    rw [findZ_names,← hn]
    exact net_nodeZ hb j hj
  rw [e,toNat_nat,getD_lt hj',Bool.not_eq_false'] at h1
  unfold Sat
  cases hcb:c.cb with
  | true =>
    rw [hcb] at h1
    rw [if_pos rfl]
    have:ilt v[j] c.cl=true:=by simpa using h1
    exact iltI this
  | false =>
    rw [hcb] at h1
    rw [if_neg (by simp)]
    have:ilt v[j] c.cl=false:=by simpa using h1
    have:=iltN this
    omega
theorem nar_in (m : List UInt8) (y : Int) : ∀ (w : List Cnd) (s : Span), s.slo ≤ y → y ≤ s.shi → (∀ c ∈ w, c.cn = m → Sat c y) → (nar m s w).slo ≤ y ∧ y ≤ (nar m s w).shi := by
  intro w
  induction w with
  | nil=>intro s h1 h2 _; exact ⟨h1,h2⟩
  | cons c w ih =>
    intro s h1 h2 h
    have hw:∀ c∈w,c.cn=m→Sat c y:=fun c' hc'=>h c' (by simp [hc'])
    show (nar m (narC m s c) w).slo≤y∧y≤(nar m (narC m s c) w).shi
    cases e:c.cn == m with
    | false =>
      have:narC m s c=s:=by unfold narC; rw [e]; rfl
      rw [this]
      exact ih s h1 h2 hw
    | true =>
      have hs:=h c (by simp) (by simpa using e)
      unfold Sat at hs
      cases hb:c.cb with
      | true =>
        rw [hb,if_pos rfl] at hs
        have:narC m s c=⟨s.slo,bif ilt (c.cl - 1) s.shi then c.cl - 1 else s.shi⟩:=by unfold narC; rw [e,hb]; rfl
        rw [this]
        refine ih _ h1 ?_ hw
        show y≤bif ilt (c.cl - 1) s.shi then c.cl - 1 else s.shi
        cases ilt (c.cl - 1) s.shi
        · exact h2
        · show y≤c.cl - 1; omega
      | false =>
        rw [hb,if_neg (by simp)] at hs
        have:narC m s c=⟨bif ilt s.slo c.cl then c.cl else s.slo,s.shi⟩:=by unfold narC; rw [e,hb]; rfl
        rw [this]
        refine ih _ ?_ h2 hw
        show (bif ilt s.slo c.cl then c.cl else s.slo)≤y
        cases ilt s.slo c.cl
        · exact h1
        · exact hs
theorem least_ex:∀ (nds:List Node) (v:List Int) (w:List Cnd),Poss nds v→(∀ c∈w,∀ (j:Nat) (hj:j < nds.length) (hj':j < v.length),nds[j].nn=c.cn→Sat c v[j])→leastB nds w=true:=by
  intro nds
  induction nds with
  | nil=>intro v w _ _; rfl
  | cons x nds ih =>
    intro v w hp h
    cases v with
    | nil=>have:=hp.1; simp at this
    | cons y v =>
      have h0:=hp.2 0 (by simp) (by simp)
      simp only [List.getElem_cons_zero] at h0
      have hx:=nar_in x.nn y w (possS x) h0.1 h0.2 (fun c hc e=>h c hc 0 (by simp) (by simp) e.symm)
      have:=ih v w ⟨by simpa using hp.1,fun i hi hi'=>hp.2 (i+1) (by simp; omega) (by simp; omega)⟩ (fun c hc j hj hj' e=>h c hc (j+1) (by simp; omega) (by simp; omega) e)
      unfold leastB at this ⊢
      unfold leastO
      rw [iltF (by omega),cond_false,Option.isSome_map]
      exact this
theorem contra_of {n:Net} (hb:netB n=true) {v:List Int} (hv:Poss n.nds v) {a b:Rule} (ha:holdN (namesL n) v a.rw=true) (hb':holdN (namesL n) v b.rw=true) (hl:a.rl=b.rl) (hs:a.rs≠b.rs):contraB n a b=true:=by
  unfold contraB
  have h3:leastB n.nds (a.rw++b.rw)=true:=least_ex n.nds v _ hv (fun c hc j hj hj' e=>by
    rcases List.mem_append.1 hc with hc | hc
    · exact holds_sat hb ha c hc j hj hj' e
    · exact holds_sat hb hb' c hc j hj hj' e)
  rw [h3,hl]
  simp [hs]
theorem findFrom_mem (n:Net) (i:Int) (a:Rule):∀ (l:List Rule) (k j:Nat) (hj:j < l.length),contraB n a l[j]=true→(⟨i,((k+j:Nat):Int)⟩:Pair)∈findFrom n i a k l:=by
  intro l
  induction l with
  | nil=>intro k j hj; simp at hj
  | cons b l ih =>
    intro k j hj h
    simp only [findFrom]
    cases j with
    | zero =>
      have h':contraB n a b=true:=h
      rw [h',cond_true]
      exact List.mem_cons_self
    | succ j =>
      have:=ih (k+1) j (by simpa using hj) (by simpa using h)
      rw [show k+1+j=k+(j+1) by omega] at this
      cases contraB n a b
      · exact this
      · exact List.mem_cons_of_mem _ this
theorem findI_mem (n : Net) : ∀ (l : List Rule) (i j k : Nat) (hj : j < k) (hk : k < l.length), contraB n l[j] l[k] = true → (⟨((i + j : Nat) : Int), ((i + k : Nat) : Int)⟩ : Pair) ∈ findI n i l := by
  intro l
  induction l with
  | nil=>intro i j k _ hk; simp at hk
  | cons a l ih =>
    intro i j k hj hk h
    simp only [findI]
    cases k with
    | zero=>omega
    | succ k =>
      cases j with
      | zero =>
        have:=findFrom_mem n (i:Int) a l (i+1) k (by simpa using hk) (by simpa using h)
        rw [show i+1+k=i+(k+1) by omega] at this
        exact List.mem_append_left _ this
      | succ j =>
        have:=ih (i+1) j k (by omega) (by simpa using hk) (by simpa using h)
        rw [show i+1+j=i+(j+1) by omega,show i+1+k=i+(k+1) by omega] at this
        exact List.mem_append_right _ this
theorem fired_facts (m : List ((List UInt8) × Int)) : ∀ (l : List Rule) (i : Nat), (firedI m i l).Pairwise (· < ·) ∧ ∀ x ∈ firedI m i l, ∃ j, ∃ h : j < l.length, x = ((i + j : Nat) : Int) ∧ List.any l[j].rw (failsM m) = false := by
  intro l
  induction l with
  | nil=>intro i; exact ⟨List.Pairwise.nil,fun x hx=>by cases hx⟩
  | cons r l ih =>
    intro i
    obtain ⟨h1,h2⟩:=ih (i+1)
    have h2':∀ x∈firedI m (i+1) l,∃ j,∃ h:j < (r :: l).length,x=((i+j:Nat):Int)∧List.any (r :: l)[j].rw (failsM m)=false:=fun x hx=>by
      obtain ⟨j,hj,e1,e2⟩:=h2 x hx
      exact ⟨j+1,by simp; omega,by rw [e1]; omega,by simpa using e2⟩
    simp only [firedI]
    cases e:List.any r.rw (failsM m) with
    | true=>exact ⟨h1,h2'⟩
    | false =>
      refine ⟨List.pairwise_cons.2 ⟨fun x hx => ?_,h1⟩,fun x hx => ?_⟩
      · obtain ⟨j, hj, e1, _⟩ := h2 x hx
        omega
      · rcases List.mem_cons.1 hx with rfl | hx
        · exact ⟨0,by simp,by simp,by simpa using e⟩
        · exact h2' x hx
theorem kq_int_iff (a b:Int):kq_int a b=true↔a=b:=by unfold kq_int; simp
theorem runS_some {n : Net} {am : List ((List UInt8) × Int)} : ∀ (suf pre : List Rule) (out : List Int) (st : List (Int × Bool)),
    (∀ a∈pre++suf,0≤linkZ n a.rl∧linkZ n a.rl < (out.length:Int)) →
    (∀ a∈pre++suf,∀ b∈pre++suf,List.any a.rw (failsM am)=false→List.any b.rw (failsM am)=false→linkZ n a.rl=linkZ n b.rl→a.rs=b.rs) →
    (∀ q:Int,mgetD kq_int st q d_bool=true→∃ a∈pre,List.any a.rw (failsM am)=false∧linkZ n a.rl=q∧List.getD out (Int.toNat q) d_int=a.rs) →
    (runS n am suf out st).isSome=true:=by
  intro suf
  induction suf with
  | nil=>intro pre out st _ _ _; rfl
  | cons r suf ih =>
    intro pre out st hz hc hst
    simp only [runS]
    have happ:pre++r :: suf=(pre++[r])++suf:=by simp
    cases hf:List.any r.rw (failsM am) with
    | true =>
      show (runS n am suf out st).isSome=true
      refine ih (pre++[r]) out st (happ ▸ hz) (happ ▸ hc) fun q hq => ?_
      obtain ⟨a,ha,h⟩:=hst q hq
      exact ⟨a,by simp [ha],h⟩
    | false =>
      have hr:r∈pre++r :: suf:=by simp
      obtain ⟨z1,z2⟩:=hz r hr
      have hnc:(mgetD kq_int st (linkZ n r.rl) d_bool&&(List.getD out (Int.toNat (linkZ n r.rl)) d_int != r.rs))=false:=by
        cases hm:mgetD kq_int st (linkZ n r.rl) d_bool with
        | false=>rfl
        | true =>
          obtain ⟨a,ha,h1,h2,h3⟩:=hst _ hm
          have:=hc a (by simp [ha]) r hr h1 hf h2
          rw [h3,this]
          simp
      rw [hnc]
      show (runS n am suf (List.set out (Int.toNat (linkZ n r.rl)) r.rs) (mput kq_int st (linkZ n r.rl) true)).isSome=true
      refine ih (pre++[r]) _ _ (fun a ha=>by rw [List.length_set]; exact hz a (happ ▸ ha)) (happ ▸ hc) fun q hq => ?_
      unfold mgetD at hq
      rw [mfind_put kq_int kq_int_iff] at hq
      by_cases e:q=linkZ n r.rl
      · subst e
        refine ⟨r,by simp,hf,rfl,?_⟩
        rw [getD_lt (by rw [List.length_set]; omega)]
        simp
      · have e1 : kq_int q (linkZ n r.rl) = false := by
          cases h:kq_int q (linkZ n r.rl) with
          | false=>rfl
          | true=>exact absurd ((kq_int_iff _ _).1 h) e
        rw [e1,cond_false] at hq
        obtain ⟨a,ha,h1,h2,h3⟩:=hst q hq
        refine ⟨a,by simp [ha],h1,h2,?_⟩
        obtain ⟨y1,y2⟩:=hz a (by simp [ha])
        rw [← h3]
        have hne:Int.toNat (linkZ n r.rl)≠Int.toNat q:=by omega
        simp [List.getD,List.getElem?_set_ne hne]
theorem link_name {n:Net} {a b:List UInt8} (ha:ilt (linkZ n a) 0=false) (h:linkZ n a=linkZ n b):a=b:=by
  have h1:=iltN ha
  rcases findZ_at (isLink a) n.lks 0 with e | ⟨j,hj,e1,e2⟩
  · unfold linkZ at h1; omega
  · rcases findZ_at (isLink b) n.lks 0 with f | ⟨k, hk, f1, f2⟩
    · unfold linkZ at h h1; omega
    · have hjk : j = k := by unfold linkZ at h; omega
      subst hjk
      simp only [isLink,beq_iff_eq] at e2 f2
      rw [← e2,← f2]
theorem findI_len' (n:Net):∀ (l:List Rule) (i:Nat),(findI n i l).length≤l.length * l.length:=by
  intro l
  induction l with
  | nil=>intro i; simp [findI]
  | cons r l ih =>
    intro i
    have h1:=ih (i+1)
    have h2:=findFrom_len n (i:Int) r l (i+1)
    simp only [findI,List.length_append,List.length_cons,Nat.add_mul,Nat.mul_add]
    omega
namespace lawNone
noncomputable def bd:Code:=(Tryz.f10.body).getD .skip
noncomputable def X:Ctx U El:=⟨E,tds,zeros,eqs,specOf [(12,awake.sp),(17,find.sp),(22,accepted.sp),(29,ready.sp),(34,hasP.sp),(39,levels.sp),(40,ufired.sp),(41,rnames.sp),(52,usettings.sp)],100000,153,dspecOf [],fun _=>none⟩
noncomputable def nmR:Norm U:=⟨[],[6],[],[],[],[],[]⟩
noncomputable def RR:Kont U El:=fun st=>normK nmR st (retFin [6] [])
noncomputable def nm1:Norm U:=⟨[],[0,2,4],[4],[],[],[],[(4,0,.node),(4,1,.link)]⟩
noncomputable def nm2:Norm U:=⟨[(7,.pair)],[0,2,4,7],[7,4],[],[],[],[(4,0,.node),(4,1,.link)]⟩
noncomputable def nm3:Norm U:=⟨[(7,.pair),(13,.int)],[0,7,13],[7,13],[],[],[],[]⟩
noncomputable def nm4:Norm U:=⟨[],[],[],[],[],[],[]⟩
noncomputable def nm5:Norm U:=⟨[(7,.pair),(13,.int)],[0,7,13,85,86,87],[7,13],[],[],[],[]⟩
noncomputable def nm6:Norm U:=⟨[(7,.pair),(13,.int)],[0,7,13,85,86,87],[7,13],[],[],[],[]⟩
noncomputable def nm7:Norm U:=⟨[(7,.pair),(13,.int)],[0,7,13,16,85,86,87,95,96,97],[7,13],[],[],[],[]⟩
noncomputable def nm8:Norm U:=⟨[(7,.pair),(13,.int)],[0,7,13,16,85,86,87,95,96,97],[7,13],[],[],[],[]⟩
noncomputable def nm9:Norm U:=⟨[(7,.pair),(13,.int)],[0,7,13,16,18,85,86,87,95,96,97],[7,13],[],[],[],[]⟩
abbrev Y1:=(List Rule)→(List UInt32)→(List Node)→(List Lnk)→R
abbrev Y2:=(List Rule)→(List UInt32)→(List Pair)→(List Node)→(List Lnk)→R
abbrev Y3:=(List Rule)→(List Pair)→(List Int)→R
abbrev Y4:=R
abbrev Y5:=(List Rule)→(List Pair)→(List Int)→Int→Int→R
abbrev Y6:=(List Rule)→(List Pair)→(List Int)→Int→Int→R
abbrev Y7:=(List Rule)→(List Pair)→(List Int)→Int→Int→Int→Nat→Nat→Int→Int→R
abbrev Y8:=(List Rule)→(List Pair)→(List Int)→Int→Int→Int→Nat→Nat→Int→Int→R
abbrev Y9:=(List Rule)→(List Pair)→(List Int)→Int→Int→Int→Int→Nat→Nat→Int→Int→R
noncomputable def fr0 (l:List Rule) (n:Net) (ats:List UInt32):St U El:=⟨[(0,(.lst .rule l)),(1,(.agg [(.lst .node n.nds),(.lst .link n.lks)])),(2,(.lst .u32 ats))],[]⟩
noncomputable def fr1 (l0:List Rule) (iA:List UInt32) (eA:List Node) (bA:List Lnk):St U El:=⟨[(0,(.lst .rule l0)),(2,(.lst .u32 iA)),(4,(.ptr 4 0))],[(4,(.box 0 [(.lst .node eA),(.lst .link bA)]))]⟩
noncomputable def fr2 (l0:List Rule) (iA:List UInt32) (p7:List Pair) (eA:List Node) (bA:List Lnk):St U El:=⟨[(0,(.lst .rule l0)),(2,(.lst .u32 iA)),(4,(.ptr 4 0)),(7,(.ful 7))],[(7,(.rows .pair p7)),(4,(.box 0 [(.lst .node eA),(.lst .link bA)]))]⟩
noncomputable def fr3 (l0:List Rule) (p7:List Pair) (aA:List Int):St U El:=⟨[(0,(.lst .rule l0)),(7,(.ful 7)),(13,(.ful 13))],[(7,(.rows .pair p7)),(13,(.rows .int aA))]⟩
noncomputable def fr4:St U El:=⟨[],[]⟩
noncomputable def fr5 (l0:List Rule) (p7:List Pair) (aA:List Int) (dA:Int) (cA:Int):St U El:=⟨[(0,(.lst .rule l0)),(7,(.ful 7)),(13,(.ful 13)),(85,(.ful 13)),(86,(.int .i64 dA)),(87,(.int .i64 cA))],[(7,(.rows .pair p7)),(13,(.rows .int aA))]⟩
noncomputable def fr6 (l0:List Rule) (p7:List Pair) (aA:List Int) (dA:Int) (cA:Int):St U El:=⟨[(0,(.lst .rule l0)),(7,(.ful 7)),(13,(.ful 13)),(85,(.ful 13)),(86,(.int .i64 dA)),(87,(.int .i64 cA))],[(7,(.rows .pair p7)),(13,(.rows .int aA))]⟩
noncomputable def fr7 (l0:List Rule) (p7:List Pair) (aA:List Int) (fA:Int) (dA:Int) (cA:Int) (x95_lo:Nat) (x95_n:Nat) (hA:Int) (gA:Int):St U El:=⟨[(0,(.lst .rule l0)),(7,(.ful 7)),(13,(.ful 13)),(16,(.int .i64 fA)),(85,(.ful 13)),(86,(.int .i64 dA)),(87,(.int .i64 cA)),(95,(.own 13 x95_lo x95_n)),(96,(.int .i64 hA)),(97,(.int .i64 gA))],[(7,(.rows .pair p7)),(13,(.rows .int aA))]⟩
noncomputable def fr8 (l0:List Rule) (p7:List Pair) (aA:List Int) (fA:Int) (dA:Int) (cA:Int) (x95_lo:Nat) (x95_n:Nat) (hA:Int) (gA:Int):St U El:=⟨[(0,(.lst .rule l0)),(7,(.ful 7)),(13,(.ful 13)),(16,(.int .i64 fA)),(85,(.ful 13)),(86,(.int .i64 dA)),(87,(.int .i64 cA)),(95,(.own 13 x95_lo x95_n)),(96,(.int .i64 hA)),(97,(.int .i64 gA))],[(7,(.rows .pair p7)),(13,(.rows .int aA))]⟩
noncomputable def fr9 (l0:List Rule) (p7:List Pair) (aA:List Int) (fA:Int) (jA:Int) (dA:Int) (cA:Int) (x95_lo:Nat) (x95_n:Nat) (hA:Int) (gA:Int):St U El:=⟨[(0,(.lst .rule l0)),(7,(.ful 7)),(13,(.ful 13)),(16,(.int .i64 fA)),(18,(.int .i64 jA)),(85,(.ful 13)),(86,(.int .i64 dA)),(87,(.int .i64 cA)),(95,(.own 13 x95_lo x95_n)),(96,(.int .i64 hA)),(97,(.int .i64 gA))],[(7,(.rows .pair p7)),(13,(.rows .int aA))]⟩
noncomputable def sh0 (l:List Rule) (n:Net) (ats:List UInt32) (k1:Y1):R :=
  condB (!(true)) (some ((.bool false),[])) (condB (!(readyB l n)) (some ((.bool true),[])) (condB (ilt (20:Int) (Int.ofNat (List.length ats))) (some ((.bool true),[])) (k1 l ats n.nds n.lks)))
noncomputable def sh1 (l0:List Rule) (iA:List UInt32) (eA:List Node) (bA:List Lnk) (k2:Y2):R :=
  chk (okN (⟨eA,bA⟩:Net)) (condB ((givenZ l0 (⟨eA,bA⟩:Net)) != (0:Int)) (some ((.bool false),[])) (chk (okN (⟨eA,bA⟩:Net)) (condB (!((accB l0 (⟨eA,bA⟩:Net)) == ((Int.ofNat (List.length (findL l0 (⟨eA,bA⟩:Net)))) == (0:Int)))) (some ((.bool false),[])) (k2 l0 iA (findL l0 (⟨eA,bA⟩:Net)) eA bA))))
noncomputable def sh2 (l0:List Rule) (iA:List UInt32) (p7:List Pair) (eA:List Node) (bA:List Lnk) (k3:Y3):R :=
  chk ((okN (⟨eA,bA⟩:Net)&&levOkN (⟨eA,bA⟩:Net))) (chk (ile 0 (Int.ofNat (List.length bA))&&ile (Int.ofNat (List.length bA)) (Int.ofNat (List.length bA))&&ile ((Int.ofNat (List.length bA)) * 8) 140737488355328) (chk ((okN (⟨eA,bA⟩:Net)&&setOk l0 (⟨eA,bA⟩:Net) (levsL (Net.nds (⟨eA,bA⟩:Net)) iA) (List.replicate (Int.toNat (Int.ofNat (List.length bA))) d_int))) (condB ((Int.ofNat (List.length p7)) == (0:Int)) (some ((.bool ((setsE l0 (⟨eA,bA⟩:Net) (levsL (Net.nds (⟨eA,bA⟩:Net)) iA) (List.replicate (Int.toNat (Int.ofNat (List.length bA))) d_int)) == (0:Int))),[])) (chk (okN (⟨eA,bA⟩:Net)) (chk ((rulesB l0&&(nle (List.length (namesL (⟨eA,bA⟩:Net))) 90000&&gvE l0 (namesL (⟨eA,bA⟩:Net)) (levsL (Net.nds (⟨eA,bA⟩:Net)) iA) == 0))) (condB ((setsE l0 (⟨eA,bA⟩:Net) (levsL (Net.nds (⟨eA,bA⟩:Net)) iA) (List.replicate (Int.toNat (Int.ofNat (List.length bA))) d_int)) != (0:Int)) (condB ((setsE l0 (⟨eA,bA⟩:Net) (levsL (Net.nds (⟨eA,bA⟩:Net)) iA) (List.replicate (Int.toNat (Int.ofNat (List.length bA))) d_int)) != (26:Int)) (some ((.bool false),[])) (k3 l0 p7 (firedL l0 (namesL (⟨eA,bA⟩:Net)) (levsL (Net.nds (⟨eA,bA⟩:Net)) iA)))) (k3 l0 p7 (firedL l0 (namesL (⟨eA,bA⟩:Net)) (levsL (Net.nds (⟨eA,bA⟩:Net)) iA)))))))))
noncomputable def sh3 (l0:List Rule) (p7:List Pair) (aA:List Int) (k5:Y5):R :=
  k5 l0 p7 aA (Int.ofNat (List.length aA)) (0:Int)
noncomputable def sh4:R :=
  some ((.bool true),[])
noncomputable def sh5 (l0:List Rule) (p7:List Pair) (aA:List Int) (dA:Int) (cA:Int) (k4:Y4) (k7:Y7):R :=
  condB (ilt cA dA) (chk (inb cA (List.length aA)) (chk (nlt (Int.toNat cA) (List.length aA)) (chk (ile 0 (IntKind.wrap .i64 (cA+(1:Int)))&&ile (IntKind.wrap .i64 (cA+(1:Int))) (Int.ofNat (List.length aA))&&ile (Int.ofNat (List.length aA)) (Int.ofNat (List.length aA))) (k7 l0 p7 aA (List.getD aA (Int.toNat cA) d_int) dA cA (Int.toNat (IntKind.wrap .i64 (cA+(1:Int)))) (Int.toNat (Int.ofNat (List.length aA)) - (Int.toNat (IntKind.wrap .i64 (cA+(1:Int))))) (Int.ofNat (Int.toNat (Int.ofNat (List.length aA)) - (Int.toNat (IntKind.wrap .i64 (cA+(1:Int)))))) (0:Int))))) (k4)
noncomputable def sh6 (l0:List Rule) (p7:List Pair) (aA:List Int) (dA:Int) (cA:Int) (k5:Y5):R :=
  k5 l0 p7 aA dA (IntKind.wrap .i64 (cA+(1:Int)))
noncomputable def sh7 (l0:List Rule) (p7:List Pair) (aA:List Int) (fA:Int) (dA:Int) (cA:Int) (x95_lo:Nat) (x95_n:Nat) (hA:Int) (gA:Int) (k6:Y6) (k9:Y9):R :=
  condB (ilt gA hA) (chk (inb gA x95_n) (chk (nlt (x95_lo+(Int.toNat gA)) (List.length aA)) (condB (ilt fA (0:Int)) (some ((.bool false),[])) (condB (ilt (List.getD aA (x95_lo+(Int.toNat gA)) d_int) (0:Int)) (some ((.bool false),[])) (condB (ile (Int.ofNat (List.length l0)) fA) (some ((.bool false),[])) (condB (ile (Int.ofNat (List.length l0)) (List.getD aA (x95_lo+(Int.toNat gA)) d_int)) (some ((.bool false),[])) (k9 l0 p7 aA fA (List.getD aA (x95_lo+(Int.toNat gA)) d_int) dA cA x95_lo x95_n hA gA))))))) (k6 l0 p7 aA dA cA)
noncomputable def sh8 (l0:List Rule) (p7:List Pair) (aA:List Int) (fA:Int) (dA:Int) (cA:Int) (x95_lo:Nat) (x95_n:Nat) (hA:Int) (gA:Int) (k7:Y7):R :=
  k7 l0 p7 aA fA dA cA x95_lo x95_n hA (IntKind.wrap .i64 (gA+(1:Int)))
noncomputable def sh9 (l0:List Rule) (p7:List Pair) (aA:List Int) (fA:Int) (jA:Int) (dA:Int) (cA:Int) (x95_lo:Nat) (x95_n:Nat) (hA:Int) (gA:Int) (k8:Y8):R :=
  chk (inb fA (List.length l0)) (chk (inb jA (List.length l0)) (condB (((List.getD l0 (Int.toNat fA) d_rule).rl) == ((List.getD l0 (Int.toNat jA) d_rule).rl)) (chk (inb fA (List.length l0)) (chk (inb jA (List.length l0)) (condB ((List.getD l0 (Int.toNat fA) d_rule).rs != (List.getD l0 (Int.toNat jA) d_rule).rs) (chk (nle (List.length p7) 90000) (condB (!(List.any p7 (eqPr (⟨fA,jA⟩:Pair)))) (some ((.bool false),[])) (k8 l0 p7 aA fA dA cA x95_lo x95_n hA gA))) (k8 l0 p7 aA fA dA cA x95_lo x95_n hA gA)))) (k8 l0 p7 aA fA dA cA x95_lo x95_n hA gA)))
noncomputable def it5 (Kb4:Kont U El) (n:Nat):Kont U El:=iter nm5 (fun st' K'=>exec X (cdp [1,1,1,1,1,1,1,1,1,1,1,0,1,0,0] bd) (.seq none .d (.seq none .d (.seq (some nm6) (.block (.seq none .d (.seq none .d (.block (.loop nm7 (.seq none .d (.seq none .d (.seq (some nm8) (.block (.seq none .d (.seq (some nm9) .d .d))) .d)))))))) .d))) st' K' (Eblk 0 (cutK nm4 Kb4) (fun _ _=>none)) RR) n
noncomputable def it7 (Kb4:Kont U El) (Kb6:Kont U El) (n:Nat):Kont U El:=iter nm7 (fun st' K'=>exec X (cdp [1,1,1,1,1,1,1,1,1,1,1,0,1,0,0,1,1,0,0,1,1,0,0] bd) (.seq none .d (.seq none .d (.seq (some nm8) (.block (.seq none .d (.seq (some nm9) .d .d))) .d))) st' K' (Eblk 2 (cutK nm6 Kb6) (Eblk 1 (cutK nm6 Kb6) (Eblk 0 (cutK nm4 Kb4) (fun _ _=>none)))) RR) n
noncomputable def ct1:Kont U El:=fun st=>exec X (cdp [1,1,1] bd) (.seq none .d (.seq (some nm2) .d (.seq none .d (.seq none .d (.seq none .d (.seq none .d (.seq none .d (.seq (some nm3) .d (.seq (some nm4) (.seq none .d (.block (.loop nm5 (.seq none .d (.seq none .d (.seq (some nm6) (.block (.seq none .d (.seq none .d (.block (.loop nm7 (.seq none .d (.seq none .d (.seq (some nm8) (.block (.seq none .d (.seq (some nm9) .d .d))) .d)))))))) .d)))))) .d))))))))) st RR (fun _ _=>none) RR
noncomputable def ct2:Kont U El:=fun st=>exec X (cdp [1,1,1,1,1] bd) (.seq none .d (.seq none .d (.seq none .d (.seq none .d (.seq none .d (.seq (some nm3) .d (.seq (some nm4) (.seq none .d (.block (.loop nm5 (.seq none .d (.seq none .d (.seq (some nm6) (.block (.seq none .d (.seq none .d (.block (.loop nm7 (.seq none .d (.seq none .d (.seq (some nm8) (.block (.seq none .d (.seq (some nm9) .d .d))) .d)))))))) .d)))))) .d))))))) st RR (fun _ _=>none) RR
noncomputable def ct3:Kont U El:=fun st=>exec X (cdp [1,1,1,1,1,1,1,1,1,1,1] bd) (.seq (some nm4) (.seq none .d (.block (.loop nm5 (.seq none .d (.seq none .d (.seq (some nm6) (.block (.seq none .d (.seq none .d (.block (.loop nm7 (.seq none .d (.seq none .d (.seq (some nm8) (.block (.seq none .d (.seq (some nm9) .d .d))) .d)))))))) .d)))))) .d) st RR (fun _ _=>none) RR
noncomputable def ct4:Kont U El:=fun st=>exec X (cdp [1,1,1,1,1,1,1,1,1,1,1,1] bd) .d st RR (fun _ _=>none) RR
noncomputable def ct6 (Kb4:Kont U El) (Kb5:Kont U El):Kont U El:=fun st=>exec X (cdp [1,1,1,1,1,1,1,1,1,1,1,0,1,0,0,1,1,1] bd) .d st (cutK nm5 Kb5) (Eblk 0 (cutK nm4 Kb4) (fun _ _=>none)) RR
noncomputable def ct8 (Kb4:Kont U El) (Kb6:Kont U El) (Kb7:Kont U El):Kont U El:=fun st=>exec X (cdp [1,1,1,1,1,1,1,1,1,1,1,0,1,0,0,1,1,0,0,1,1,0,0,1,1,1] bd) .d st (cutK nm7 Kb7) (Eblk 2 (cutK nm6 Kb6) (Eblk 1 (cutK nm6 Kb6) (Eblk 0 (cutK nm4 Kb4) (fun _ _=>none)))) RR
noncomputable def ct9 (Kb4:Kont U El) (Kb6:Kont U El) (Kb8:Kont U El):Kont U El:=fun st=>exec X (cdp [1,1,1,1,1,1,1,1,1,1,1,0,1,0,0,1,1,0,0,1,1,0,0,1,1,0,0,1,1] bd) .d st (cutK nm8 Kb8) (Eblk 3 (cutK nm8 Kb8) (Eblk 2 (cutK nm6 Kb6) (Eblk 1 (cutK nm6 Kb6) (Eblk 0 (cutK nm4 Kb4) (fun _ _=>none))))) RR
theorem P0 (l n ats):exec X (cdp [] bd) (.seq none .d (.seq none .d (.seq (some nm1) .d (.seq none .d (.seq (some nm2) .d (.seq none .d (.seq none .d (.seq none .d (.seq none .d (.seq none .d (.seq (some nm3) .d (.seq (some nm4) (.seq none .d (.block (.loop nm5 (.seq none .d (.seq none .d (.seq (some nm6) (.block (.seq none .d (.seq none .d (.block (.loop nm7 (.seq none .d (.seq none .d (.seq (some nm8) (.block (.seq none .d (.seq (some nm9) .d .d))) .d)))))))) .d)))))) .d)))))))))))) (fr0 l n ats) RR (fun _ _=>none) RR=sh0 l n ats (fun y0 y1 y2 y3=>(hid ct1) (fr1 y0 y1 y2 y3)):=by kernel_rfl
theorem P1 (l0 iA eA bA):exec X (cdp [1,1,1] bd) (.seq none .d (.seq (some nm2) .d (.seq none .d (.seq none .d (.seq none .d (.seq none .d (.seq none .d (.seq (some nm3) .d (.seq (some nm4) (.seq none .d (.block (.loop nm5 (.seq none .d (.seq none .d (.seq (some nm6) (.block (.seq none .d (.seq none .d (.block (.loop nm7 (.seq none .d (.seq none .d (.seq (some nm8) (.block (.seq none .d (.seq (some nm9) .d .d))) .d)))))))) .d)))))) .d))))))))) (fr1 l0 iA eA bA) RR (fun _ _=>none) RR=sh1 l0 iA eA bA (fun y0 y1 y2 y3 y4=>(hid ct2) (fr2 y0 y1 y2 y3 y4)):=by kernel_rfl
theorem P2 (l0 iA p7 eA bA):exec X (cdp [1,1,1,1,1] bd) (.seq none .d (.seq none .d (.seq none .d (.seq none .d (.seq none .d (.seq (some nm3) .d (.seq (some nm4) (.seq none .d (.block (.loop nm5 (.seq none .d (.seq none .d (.seq (some nm6) (.block (.seq none .d (.seq none .d (.block (.loop nm7 (.seq none .d (.seq none .d (.seq (some nm8) (.block (.seq none .d (.seq (some nm9) .d .d))) .d)))))))) .d)))))) .d))))))) (fr2 l0 iA p7 eA bA) RR (fun _ _=>none) RR=sh2 l0 iA p7 eA bA (fun y0 y1 y2=>(hid ct3) (fr3 y0 y1 y2)):=by kernel_rfl
theorem P3 (l0 p7 aA):exec X (cdp [1,1,1,1,1,1,1,1,1,1,1] bd) (.seq (some nm4) (.seq none .d (.block (.loop nm5 (.seq none .d (.seq none .d (.seq (some nm6) (.block (.seq none .d (.seq none .d (.block (.loop nm7 (.seq none .d (.seq none .d (.seq (some nm8) (.block (.seq none .d (.seq (some nm9) .d .d))) .d)))))))) .d)))))) .d) (fr3 l0 p7 aA) RR (fun _ _=>none) RR=sh3 l0 p7 aA (fun y0 y1 y2 y3 y4=>(hid (it5 (hid ct4) 100000)) (fr5 y0 y1 y2 y3 y4)):=by kernel_rfl
theorem P4:exec X (cdp [1,1,1,1,1,1,1,1,1,1,1,1] bd) .d (fr4) RR (fun _ _=>none) RR=sh4:=by kernel_rfl
theorem P5 (l0 p7 aA dA cA) (Kb4:Kont U El) (Kb5:Kont U El):exec X (cdp [1,1,1,1,1,1,1,1,1,1,1,0,1,0,0] bd) (.seq none .d (.seq none .d (.seq (some nm6) (.block (.seq none .d (.seq none .d (.block (.loop nm7 (.seq none .d (.seq none .d (.seq (some nm8) (.block (.seq none .d (.seq (some nm9) .d .d))) .d)))))))) .d))) (fr5 l0 p7 aA dA cA) (cutK nm5 Kb5) (Eblk 0 (cutK nm4 Kb4) (fun _ _=>none)) RR=sh5 l0 p7 aA dA cA (Kb4 (fr4)) (fun y0 y1 y2 y3 y4 y5 y6 y7 y8 y9=>(hid (it7 Kb4 (hid (ct6 Kb4 Kb5)) 100000)) (fr7 y0 y1 y2 y3 y4 y5 y6 y7 y8 y9)):=by kernel_rfl
theorem P6 (l0 p7 aA dA cA) (Kb4:Kont U El) (Kb5:Kont U El):exec X (cdp [1,1,1,1,1,1,1,1,1,1,1,0,1,0,0,1,1,1] bd) .d (fr6 l0 p7 aA dA cA) (cutK nm5 Kb5) (Eblk 0 (cutK nm4 Kb4) (fun _ _=>none)) RR=sh6 l0 p7 aA dA cA (fun y0 y1 y2 y3 y4=>Kb5 (fr5 y0 y1 y2 y3 y4)):=by kernel_rfl
theorem P7 (l0 p7 aA fA dA cA x95_lo x95_n hA gA) (Kb4:Kont U El) (Kb6:Kont U El) (Kb7:Kont U El):exec X (cdp [1,1,1,1,1,1,1,1,1,1,1,0,1,0,0,1,1,0,0,1,1,0,0] bd) (.seq none .d (.seq none .d (.seq (some nm8) (.block (.seq none .d (.seq (some nm9) .d .d))) .d))) (fr7 l0 p7 aA fA dA cA x95_lo x95_n hA gA) (cutK nm7 Kb7) (Eblk 2 (cutK nm6 Kb6) (Eblk 1 (cutK nm6 Kb6) (Eblk 0 (cutK nm4 Kb4) (fun _ _=>none)))) RR=sh7 l0 p7 aA fA dA cA x95_lo x95_n hA gA (fun y0 y1 y2 y3 y4=>Kb6 (fr6 y0 y1 y2 y3 y4)) (fun y0 y1 y2 y3 y4 y5 y6 y7 y8 y9 y10=>(hid (ct9 Kb4 Kb6 (hid (ct8 Kb4 Kb6 Kb7)))) (fr9 y0 y1 y2 y3 y4 y5 y6 y7 y8 y9 y10)):=by kernel_rfl
theorem P8 (l0 p7 aA fA dA cA x95_lo x95_n hA gA) (Kb4:Kont U El) (Kb6:Kont U El) (Kb7:Kont U El):exec X (cdp [1,1,1,1,1,1,1,1,1,1,1,0,1,0,0,1,1,0,0,1,1,0,0,1,1,1] bd) .d (fr8 l0 p7 aA fA dA cA x95_lo x95_n hA gA) (cutK nm7 Kb7) (Eblk 2 (cutK nm6 Kb6) (Eblk 1 (cutK nm6 Kb6) (Eblk 0 (cutK nm4 Kb4) (fun _ _=>none)))) RR=sh8 l0 p7 aA fA dA cA x95_lo x95_n hA gA (fun y0 y1 y2 y3 y4 y5 y6 y7 y8 y9=>Kb7 (fr7 y0 y1 y2 y3 y4 y5 y6 y7 y8 y9)):=by kernel_rfl
theorem P9 (l0 p7 aA fA jA dA cA x95_lo x95_n hA gA) (Kb4:Kont U El) (Kb6:Kont U El) (Kb8:Kont U El):exec X (cdp [1,1,1,1,1,1,1,1,1,1,1,0,1,0,0,1,1,0,0,1,1,0,0,1,1,0,0,1,1] bd) .d (fr9 l0 p7 aA fA jA dA cA x95_lo x95_n hA gA) (cutK nm8 Kb8) (Eblk 3 (cutK nm8 Kb8) (Eblk 2 (cutK nm6 Kb6) (Eblk 1 (cutK nm6 Kb6) (Eblk 0 (cutK nm4 Kb4) (fun _ _=>none))))) RR=sh9 l0 p7 aA fA jA dA cA x95_lo x95_n hA gA (fun y0 y1 y2 y3 y4 y5 y6 y7 y8 y9=>Kb8 (fr8 y0 y1 y2 y3 y4 y5 y6 y7 y8 y9)):=by kernel_rfl
noncomputable def f4:R:=sh4
noncomputable def f6 (k5:Y5) (l0:List Rule) (p7:List Pair) (aA:List Int) (dA:Int) (cA:Int):R:=sh6 l0 p7 aA dA cA k5
noncomputable def f8 (k5:Y5) (k7:Y7) (l0:List Rule) (p7:List Pair) (aA:List Int) (fA:Int) (dA:Int) (cA:Int) (x95_lo:Nat) (x95_n:Nat) (hA:Int) (gA:Int):R:=sh8 l0 p7 aA fA dA cA x95_lo x95_n hA gA k7
noncomputable def f9 (k5:Y5) (k7:Y7) (l0:List Rule) (p7:List Pair) (aA:List Int) (fA:Int) (jA:Int) (dA:Int) (cA:Int) (x95_lo:Nat) (x95_n:Nat) (hA:Int) (gA:Int):R:=sh9 l0 p7 aA fA jA dA cA x95_lo x95_n hA gA (f8 k5 k7)
noncomputable def f7 (k5:Y5):Nat→Y7
  | 0=>fun _ _ _ _ _ _ _ _ _ _=>none
  | n+1=>fun l0 p7 aA fA dA cA x95_lo x95_n hA gA=>sh7 l0 p7 aA fA dA cA x95_lo x95_n hA gA (f6 k5) (f9 k5 (f7 k5 n))
noncomputable def f5:Nat→Y5
  | 0=>fun _ _ _ _ _=>none
  | n+1=>fun l0 p7 aA dA cA=>sh5 l0 p7 aA dA cA f4 (f7 (f5 n) 100000)
noncomputable def f3 (l0:List Rule) (p7:List Pair) (aA:List Int):R:=sh3 l0 p7 aA (f5 100000)
noncomputable def f2 (l0:List Rule) (iA:List UInt32) (p7:List Pair) (eA:List Node) (bA:List Lnk):R:=sh2 l0 iA p7 eA bA f3
noncomputable def f1 (l0:List Rule) (iA:List UInt32) (eA:List Node) (bA:List Lnk):R:=sh1 l0 iA eA bA f2
noncomputable def f0 (l:List Rule) (n:Net) (ats:List UInt32):R:=sh0 l n ats f1
theorem T4:(hid ct4) (fr4)=f4:=by
  refine (congrFun (hid_eq _) _).trans <| (P4).trans ?_
  show _=sh4
  rfl
theorem T6 (KL5:Kont U El) (k5:Y5) (h5:∀ l0 p7 aA dA cA,KL5 (fr5 l0 p7 aA dA cA)=k5 l0 p7 aA dA cA) (l0 p7 aA dA cA):(hid (ct6 (hid ct4) KL5)) (fr6 l0 p7 aA dA cA)=f6 k5 l0 p7 aA dA cA:=by
  refine (congrFun (hid_eq _) _).trans <| (P6 l0 p7 aA dA cA (hid ct4) KL5).trans ?_
  show _=sh6 l0 p7 aA dA cA k5
  simp only [h5]
theorem T8 (KL5:Kont U El) (KL7:Kont U El) (k5:Y5) (k7:Y7) (h5:∀ l0 p7 aA dA cA,KL5 (fr5 l0 p7 aA dA cA)=k5 l0 p7 aA dA cA) (h7:∀ l0 p7 aA fA dA cA x95_lo x95_n hA gA,KL7 (fr7 l0 p7 aA fA dA cA x95_lo x95_n hA gA)=k7 l0 p7 aA fA dA cA x95_lo x95_n hA gA) (l0 p7 aA fA dA cA x95_lo x95_n hA gA):(hid (ct8 (hid ct4) (hid (ct6 (hid ct4) KL5)) KL7)) (fr8 l0 p7 aA fA dA cA x95_lo x95_n hA gA)=f8 k5 k7 l0 p7 aA fA dA cA x95_lo x95_n hA gA:=by
  refine (congrFun (hid_eq _) _).trans <| (P8 l0 p7 aA fA dA cA x95_lo x95_n hA gA (hid ct4) (hid (ct6 (hid ct4) KL5)) KL7).trans ?_
  show _=sh8 l0 p7 aA fA dA cA x95_lo x95_n hA gA k7
  simp only [h7]
theorem T9 (KL5:Kont U El) (KL7:Kont U El) (k5:Y5) (k7:Y7) (h5:∀ l0 p7 aA dA cA,KL5 (fr5 l0 p7 aA dA cA)=k5 l0 p7 aA dA cA) (h7:∀ l0 p7 aA fA dA cA x95_lo x95_n hA gA,KL7 (fr7 l0 p7 aA fA dA cA x95_lo x95_n hA gA)=k7 l0 p7 aA fA dA cA x95_lo x95_n hA gA) (l0 p7 aA fA jA dA cA x95_lo x95_n hA gA):(hid (ct9 (hid ct4) (hid (ct6 (hid ct4) KL5)) (hid (ct8 (hid ct4) (hid (ct6 (hid ct4) KL5)) KL7)))) (fr9 l0 p7 aA fA jA dA cA x95_lo x95_n hA gA)=f9 k5 k7 l0 p7 aA fA jA dA cA x95_lo x95_n hA gA:=by
  refine (congrFun (hid_eq _) _).trans <| (P9 l0 p7 aA fA jA dA cA x95_lo x95_n hA gA (hid ct4) (hid (ct6 (hid ct4) KL5)) (hid (ct8 (hid ct4) (hid (ct6 (hid ct4) KL5)) KL7))).trans ?_
  show _=sh9 l0 p7 aA fA jA dA cA x95_lo x95_n hA gA (f8 k5 k7)
  simp only [T8 KL5 KL7 k5 k7 h5 h7]
theorem T7 (KL5:Kont U El) (k5:Y5) (h5:∀ l0 p7 aA dA cA,KL5 (fr5 l0 p7 aA dA cA)=k5 l0 p7 aA dA cA):∀ (n:Nat),∀ l0 p7 aA fA dA cA x95_lo x95_n hA gA,it7 (hid ct4) (hid (ct6 (hid ct4) KL5)) n (fr7 l0 p7 aA fA dA cA x95_lo x95_n hA gA)=f7 k5 n l0 p7 aA fA dA cA x95_lo x95_n hA gA:=by
  intro n
  induction n with
  | zero=>intros; rfl
  | succ n ih =>
    intro l0 p7 aA fA dA cA x95_lo x95_n hA gA
    refine (P7 l0 p7 aA fA dA cA x95_lo x95_n hA gA (hid ct4) (hid (ct6 (hid ct4) KL5)) (it7 (hid ct4) (hid (ct6 (hid ct4) KL5)) n)).trans ?_
    show _=sh7 l0 p7 aA fA dA cA x95_lo x95_n hA gA (f6 k5) (f9 k5 (f7 k5 n))
    simp only [T6 KL5 k5 h5,T9 KL5 (it7 (hid ct4) (hid (ct6 (hid ct4) KL5)) n) k5 (f7 k5 n) h5 ih]
theorem H7 (KL5:Kont U El) (k5:Y5) (h5:∀ l0 p7 aA dA cA,KL5 (fr5 l0 p7 aA dA cA)=k5 l0 p7 aA dA cA) (l0 p7 aA fA dA cA x95_lo x95_n hA gA):hid (it7 (hid ct4) (hid (ct6 (hid ct4) KL5)) 100000) (fr7 l0 p7 aA fA dA cA x95_lo x95_n hA gA)=f7 k5 100000 l0 p7 aA fA dA cA x95_lo x95_n hA gA:=(congrFun (hid_eq _) _).trans (T7 KL5 k5 h5 100000 l0 p7 aA fA dA cA x95_lo x95_n hA gA)
theorem T5:∀ (n:Nat),∀ l0 p7 aA dA cA,it5 (hid ct4) n (fr5 l0 p7 aA dA cA)=f5 n l0 p7 aA dA cA:=by
  intro n
  induction n with
  | zero=>intros; rfl
  | succ n ih =>
    intro l0 p7 aA dA cA
    refine (P5 l0 p7 aA dA cA (hid ct4) (it5 (hid ct4) n)).trans ?_
    show _=sh5 l0 p7 aA dA cA f4 (f7 (f5 n) 100000)
    simp only [T4,H7 (it5 (hid ct4) n) (f5 n) ih]
theorem H5 (l0 p7 aA dA cA):hid (it5 (hid ct4) 100000) (fr5 l0 p7 aA dA cA)=f5 100000 l0 p7 aA dA cA:=(congrFun (hid_eq _) _).trans (T5 100000 l0 p7 aA dA cA)
theorem T3 (l0 p7 aA):(hid ct3) (fr3 l0 p7 aA)=f3 l0 p7 aA:=by
  refine (congrFun (hid_eq _) _).trans <| (P3 l0 p7 aA).trans ?_
  show _=sh3 l0 p7 aA (f5 100000)
  simp only [H5]
theorem T2 (l0 iA p7 eA bA):(hid ct2) (fr2 l0 iA p7 eA bA)=f2 l0 iA p7 eA bA:=by
  refine (congrFun (hid_eq _) _).trans <| (P2 l0 iA p7 eA bA).trans ?_
  show _=sh2 l0 iA p7 eA bA f3
  simp only [T3]
theorem T1 (l0 iA eA bA):(hid ct1) (fr1 l0 iA eA bA)=f1 l0 iA eA bA:=by
  refine (congrFun (hid_eq _) _).trans <| (P1 l0 iA eA bA).trans ?_
  show _=sh1 l0 iA eA bA f2
  simp only [T2]
theorem T0 (l n ats):exec X bd (.seq none .d (.seq none .d (.seq (some nm1) .d (.seq none .d (.seq (some nm2) .d (.seq none .d (.seq none .d (.seq none .d (.seq none .d (.seq none .d (.seq (some nm3) .d (.seq (some nm4) (.seq none .d (.block (.loop nm5 (.seq none .d (.seq none .d (.seq (some nm6) (.block (.seq none .d (.seq none .d (.block (.loop nm7 (.seq none .d (.seq none .d (.seq (some nm8) (.block (.seq none .d (.seq (some nm9) .d .d))) .d)))))))) .d)))))) .d)))))))))))) (fr0 l n ats) RR (fun _ _=>none) RR=f0 l n ats:=by
  refine (P0 l n ats).trans ?_
  show _=sh0 l n ats f1
  simp only [T1]
theorem run (l n ats):runFn X bd (.seq none .d (.seq none .d (.seq (some nm1) .d (.seq none .d (.seq (some nm2) .d (.seq none .d (.seq none .d (.seq none .d (.seq none .d (.seq none .d (.seq (some nm3) .d (.seq (some nm4) (.seq none .d (.block (.loop nm5 (.seq none .d (.seq none .d (.seq (some nm6) (.block (.seq none .d (.seq none .d (.block (.loop nm7 (.seq none .d (.seq none .d (.seq (some nm8) (.block (.seq none .d (.seq (some nm9) .d .d))) .d)))))))) .d)))))) .d)))))))))))) nmR [6] [] [(.lst .rule l),(.agg [(.lst .node n.nds),(.lst .link n.lks)]),(.lst .u32 ats)]=f0 l n ats:=T0 l n ats
def Told (l : List Rule) (p : List Pair) (F : List Int) : Prop :=
  ∀ (i j : Nat) (hi : i < j) (hj : j < F.length), 0 ≤ F[i] ∧ F[i] < (l.length : Int) ∧ 0 ≤ F[j] ∧ F[j] < (l.length : Int) ∧
    ((List.getD l (Int.toNat F[i]) d_rule).rl=(List.getD l (Int.toNat F[j]) d_rule).rl→(List.getD l (Int.toNat F[i]) d_rule).rs≠(List.getD l (Int.toNat F[j]) d_rule).rs→List.any p (eqPr ⟨F[i],F[j]⟩)=true)
theorem loop7 (k5 : Y5) (l : List Rule) (p : List Pair) (F : List Int) (L : Int) (hp : p.length ≤ 90000) (hF : F.length ≤ 90000) (ht : Told l p F) (i : Nat) (hi : i < F.length) : ∀ (n j : Nat), F.length - (i + 1) < n + j → j ≤ F.length - (i + 1) → f7 k5 n l p F F[i] L (i : Int) (i + 1) (F.length - (i + 1)) (Int.ofNat (F.length - (i + 1))) (j : Int) = f6 k5 l p F L (i : Int) := by
  intro n
  induction n with
  | zero=>intro j h1 h2; omega
  | succ n ih =>
    intro j h1 h2
    show sh7 l p F F[i] L (i:Int) (i+1) (F.length - (i+1)) (Int.ofNat (F.length - (i+1))) (j:Int) (f6 k5) (f9 k5 (f7 k5 n))=_
    unfold sh7
    by_cases hj:j < F.length - (i+1)
    · have hij : i + 1 + j < F.length := by omega
      obtain ⟨t1,t2,t3,t4,t5⟩:=ht i (i+1+j) (by omega) hij
      have e8:f8 k5 (f7 k5 n) l p F F[i] L (i:Int) (i+1) (F.length - (i+1)) (Int.ofNat (F.length - (i+1))) (j:Int)=f6 k5 l p F L (i:Int):=by
        show f7 k5 n l p F F[i] L (i:Int) (i+1) (F.length - (i+1)) (Int.ofNat (F.length - (i+1))) (IntKind.wrap .i64 ((j:Int)+1))=_
        rw [wrapS j (by omega)]
        exact ih (j+1) (by omega) hj
      rw [iltT (by simp; omega),inbT hj,toNat_nat,nltT hij,getD_lt hij,iltF (by omega),iltF (by omega),ileF (by simp; omega),ileF (by simp; omega)]
      show sh9 l p F F[i] F[i+1+j] L (i:Int) (i+1) (F.length - (i+1)) (Int.ofNat (F.length - (i+1))) (j:Int) (f8 k5 (f7 k5 n))=_
      unfold sh9
      have b1:inb F[i] l.length=true:=by simp only [inb,Bool.and_eq_true]; exact ⟨ileT t1,iltT t2⟩
      have b2:inb F[i+1+j] l.length=true:=by simp only [inb,Bool.and_eq_true]; exact ⟨ileT t3,iltT t4⟩
      rw [b1,b2,nleT hp,e8]
      cases h1:(List.getD l (Int.toNat F[i]) d_rule).rl == (List.getD l (Int.toNat F[i+1+j]) d_rule).rl with
      | false=>rfl
      | true =>
        cases h2:(List.getD l (Int.toNat F[i]) d_rule).rs != (List.getD l (Int.toNat F[i+1+j]) d_rule).rs with
        | false=>rfl
        | true=>rw [t5 (by simpa using h1) (by simpa using h2)]; rfl
    · have : j = F.length - (i + 1) := by omega
      subst this
      rw [iltF (by simp)]
      rfl
theorem loop5 (l:List Rule) (p:List Pair) (F:List Int) (hp:p.length≤90000) (hF:F.length≤90000) (ht:Told l p F):∀ (n i:Nat),F.length < n+i→i≤F.length→f5 n l p F (Int.ofNat F.length) (i:Int)=outB true:=by
  intro n
  induction n with
  | zero=>intro i h1 h2; omega
  | succ n ih =>
    intro i h1 h2
    show sh5 l p F (Int.ofNat F.length) (i:Int) f4 (f7 (f5 n) 100000)=_
    unfold sh5
    by_cases hi:i < F.length
    · have e := loop7 (f5 n) l p F (Int.ofNat F.length) hp hF ht i hi 100000 0 (by omega) (by omega)
      rw [iltT (by simp; omega),inbT hi,wrapS i (by omega),toNat_nat i,toNat_nat (i+1),toNat_ofNat,nltT hi,getD_lt hi,ileT (show (0:Int)≤((i+1:Nat):Int) by omega),ileT (show ((i+1:Nat):Int)≤Int.ofNat F.length by simp; omega),ileT (show Int.ofNat F.length≤Int.ofNat F.length by omega),show ((0:Int))=((0:Nat):Int) from rfl,e]
      show f5 n l p F (Int.ofNat F.length) (IntKind.wrap .i64 ((i:Int)+1))=_
      rw [wrapS i (by omega)]
      exact ih (i+1) (by omega) hi
    · have : i = F.length := by omega
      subst this
      rw [iltF (by simp)]
      rfl
theorem told {l:List Rule} {n:Net} (hb:netB n=true) (hk:knownB l n=true) {v:List Int} (hv:Poss n.nds v):Told l (findP l n) (firedL l (namesL n) v):=by
  intro i j hij hj
  obtain ⟨f1,f2⟩:=fired_facts (List.zip (namesL n) v) l 0
  have hi:i < (firedL l (namesL n) v).length:=by omega
  obtain ⟨a,ha,ea,fa⟩:=f2 _ (List.getElem_mem hi)
  obtain ⟨b,hb',eb,fb⟩:=f2 _ (List.getElem_mem hj)
  have hlt:=List.pairwise_iff_getElem.1 f1 i j hi hj hij
  have ea':(firedL l (namesL n) v)[i]=(a:Int):=by rw [Nat.zero_add] at ea; exact ea
  have eb':(firedL l (namesL n) v)[j]=(b:Int):=by rw [Nat.zero_add] at eb; exact eb
  have hab:a < b:=by
    have:(firedL l (namesL n) v)[i] < (firedL l (namesL n) v)[j]:=hlt
    rw [ea',eb'] at this
    omega
  rw [ea',eb',toNat_nat,toNat_nat,getD_lt ha,getD_lt hb']
  refine ⟨by omega,by omega,by omega,by omega,fun h1 h2 => ?_⟩
  have hl:(namesL n).length=v.length:=by rw [hv.1,namesL,List.length_map]
  have hold:∀ (x:Nat) (hx:x < l.length),List.any l[x].rw (failsM (List.zip (namesL n) v))=false→holdN (namesL n) v l[x].rw=true:=fun x hx h=>by
    have:List.any l[x].rw (failsM (List.zip (namesL n) v))=List.any l[x].rw (failsN (namesL n) v):=anyC fun c hc=>failsM_N hl (hasN_elem (known_elem hk _ (List.getElem_mem hx) c hc))
    unfold holdN
    rw [← this,h]
    rfl
  have hm:=findI_mem n l 0 a b hab hb' (contra_of hb hv (hold a ha fa) (hold b hb' fb) h1 h2)
  rw [Nat.zero_add,Nat.zero_add] at hm
  exact List.any_eq_true.2 ⟨_,hm,by simp [eqPr]⟩
theorem f0_eq (l : List Rule) (n : Net) (ats : List UInt32) : f0 l n ats = outB true := by
  show sh0 l n ats f1=_
  unfold sh0
  cases hr:readyB l n with
  | false=>rfl
  | true =>
    obtain ⟨hl,hn,hg⟩:=ready_of hr
    obtain ⟨g1,g2,g3⟩:=given0 hg
    cases ilt 20 (Int.ofNat ats.length) with
    | true=>rfl
    | false =>
      show sh1 l ats n.nds n.lks f2=_
      unfold sh1
      have hn':okN (⟨n.nds,n.lks⟩:Net)=true:=hn
      have hg':givenZ l (⟨n.nds,n.lks⟩:Net)=0:=hg
      have hfl:findL l (⟨n.nds,n.lks⟩:Net)=findP l n:=by
        show findL l n=_
        unfold findL; rw [hg]; rfl
      have hac:accB l (⟨n.nds,n.lks⟩:Net)=(Int.ofNat (findP l n).length == 0):=by
        show accB l n=_
        unfold accB; rw [hg]; rfl
      rw [hn',hg',hfl,hac,beq_self_eq_true]
      show sh2 l ats (findP l n) n.nds n.lks f3=_
      unfold sh2
      have hv:=levs_poss (net_levOk g2) ats
      have hnl:=nleI (okN_lks hn)
      have hlv:levOkN (⟨n.nds,n.lks⟩:Net)=true:=net_levOk g2
      have hset:setOk l (⟨n.nds,n.lks⟩:Net) (levsL n.nds ats) (List.replicate n.lks.length d_int)=true:=by
        show setOk l n _ _=true
        unfold setOk
        rw [g1,g2,g3,hv.1,List.length_replicate,Nat.beq_refl,Nat.beq_refl]
        have:List.any (List.replicate n.lks.length d_int) notSet=false:=List.any_eq_false.2 fun x hx=>by
          have:=List.eq_of_mem_replicate hx
          subst this
          decide
        rw [this]
        rfl
      have h1:nle (namesL (⟨n.nds,n.lks⟩:Net)).length 90000=true:=by have:=okN_nds hn; simpa [namesL] using this
      have h2:(gvE l (namesL (⟨n.nds,n.lks⟩:Net)) (levsL n.nds ats) == 0)=true:=gv_ok g2 g3 hv.1
      rw [hn',hlv,toNat_ofNat,ileT (show (0:Int)≤Int.ofNat n.lks.length by simp),ileT (show Int.ofNat n.lks.length≤Int.ofNat n.lks.length by omega),ileT (show (Int.ofNat n.lks.length) * 8≤140737488355328 by simp; omega),hset,g1,h1,h2]
      have hpl:(findP l n).length≤90000:=by
        have e1:=(rulesB_len g1).1
        have e2:=findI_len' n l 0
        have e3:l.length * l.length≤60 * 60:=Nat.mul_le_mul e1 e1
        unfold findP
        omega
      have hFl:(firedL l (namesL n) (levsL n.nds ats)).length≤90000:=by
        have e1:=(rulesB_len g1).1
        have e2:=firedI_len (List.zip (namesL n) (levsL n.nds ats)) l 0
        unfold firedL
        omega
      have hend:f3 l (findP l n) (firedL l (namesL n) (levsL n.nds ats))=outB true:=loop5 l (findP l n) _ hpl hFl (told g2 g3 hv) 100000 0 (by omega) (by omega)
      have hend':f3 l (findP l n) (firedL l (namesL (⟨n.nds,n.lks⟩:Net)) (levsL n.nds ats))=outB true:=hend
      cases hp0:(Int.ofNat (findP l n).length == 0) with
      | true =>
        have hsome:(setsO l n (levsL n.nds ats) (List.replicate n.lks.length d_int)).isSome=true:=by
          refine runS_some l [] _ [] (fun a ha => ?_) (fun a ha b hb h3 h4 h5 => ?_) (fun q hq=>by cases hq)
          · rw [List.length_replicate]
            have:=link_in (known_link g3 a (by simpa using ha))
            exact ⟨this.1,this.2.1⟩
          · apply Classical.byContradiction
            intro hne
            have ha':a∈l:=by simpa using ha
            have hb':b∈l:=by simpa using hb
            have hln:a.rl=b.rl:=link_name (known_link g3 a ha') h5
            have hlen:(namesL n).length=(levsL n.nds ats).length:=by rw [hv.1,namesL,List.length_map]
            have hold:∀ r∈l,List.any r.rw (failsM (List.zip (namesL n) (levsL n.nds ats)))=false→holdN (namesL n) (levsL n.nds ats) r.rw=true:=fun r hr h=>by
              have:List.any r.rw (failsM (List.zip (namesL n) (levsL n.nds ats)))=List.any r.rw (failsN (namesL n) (levsL n.nds ats)):=anyC fun c hc=>failsM_N hlen (hasN_elem (known_elem g3 r hr c hc))
              unfold holdN
              rw [← this,h]
              rfl
            obtain ⟨i,hi,rfl⟩:=List.getElem_of_mem ha'
            obtain ⟨k,hk,rfl⟩:=List.getElem_of_mem hb'
            have hnil:findP l n=[]:=by
              cases hq:findP l n with
              | nil=>rfl
              | cons x y=>rw [hq] at hp0; simp at hp0; omega
            rcases Nat.lt_trichotomy i k with h | h | h
            · have := findI_mem n l 0 i k h hk (contra_of g2 hv (hold _ ha' h3) (hold _ hb' h4) hln hne)
              unfold findP at hnil
              rw [hnil] at this
              cases this
            · subst h; exact hne rfl
            · have := findI_mem n l 0 k i h hi (contra_of g2 hv (hold _ hb' h4) (hold _ ha' h3) hln.symm (fun e => hne e.symm))
              unfold findP at hnil
              rw [hnil] at this
              cases this
        have hE:setsE l (⟨n.nds,n.lks⟩:Net) (levsL n.nds ats) (List.replicate n.lks.length d_int)=0:=by
          show setsE l n _ _=0
          unfold setsE; rw [hsome]; rfl
        rw [hE]
        rfl
      | false =>
        rw [hend']
        have hE:setsE l (⟨n.nds,n.lks⟩:Net) (levsL n.nds ats) (List.replicate n.lks.length d_int)=0∨setsE l (⟨n.nds,n.lks⟩:Net) (levsL n.nds ats) (List.replicate n.lks.length d_int)=26:=by
          unfold setsE
          cases (setsO l (⟨n.nds,n.lks⟩:Net) (levsL n.nds ats) (List.replicate n.lks.length d_int)).isSome
          · exact .inr rfl
          · exact .inl rfl
        rcases hE with e | e<;>(rw [e]; rfl)
theorem ok:CtxOk Tryz.prog X:=ctxOk tab (spC awake.spOk (spC find.spOk (spC accepted.spOk (spC ready.spOk (spC hasP.spOk (spC levels.spOk (spC ufired.spOk (spC rnames.spOk (spC usettings.spOk spN))))))))) dpN
theorem okM:MOk Tryz.prog X:=fun g sp h=>by cases h
theorem spec (l:List Rule) (n:Net) (ats:List UInt32):CallSpec Tryz.prog E 10 [(.lst .rule l),(.agg [(.lst .node n.nds),(.lst .link n.lks)]),(.lst .u32 ats)] (.bool (true)) [] :=
  runFn_sound ok okM Tryz.call10 Tryz.func10 (by kernel_rfl) (by kernel_rfl) (by kernel_rfl) (by show 3≤153; decide) (by decide) (by rfl) ((run l n ats).trans (f0_eq l n ats))
noncomputable def sp:Sp U El:=fun args k=>match args with
  | [.lst .rule l,.agg [.lst .node n_nds,.lst .link n_lks],.lst .u32 ats]=>k (.bool (true)) []
  | _=>none
theorem spOk:SpOk Tryz.prog E 10 sp where
  det:=fun vs=>by
    unfold sp
    split
    · exact ⟨some (_,_),fun _=>rfl⟩
    · exact ⟨none,fun _=>rfl⟩
  ok:=fun vs k r h=>by
    unfold sp at h
    split at h
    · exact ⟨_,_,spec _ ⟨_,_⟩ _,h⟩
    · cases h
end lawNone
end Go.Proofs.YthdimnlkcgchoaaGreat
