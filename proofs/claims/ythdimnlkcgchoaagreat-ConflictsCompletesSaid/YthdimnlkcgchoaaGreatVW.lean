/- A complete link has a rule that holds at all possible levels; the law ConflictsCompletes by its own run. -/
import Derived.Test.YthdimnlkcgchoaaGreatVU
namespace Go.Proofs.YthdimnlkcgchoaaGreat
set_option linter.unusedSectionVars false
set_option linter.unusedSimpArgs false
set_option linter.unusedVariables false
set_option maxRecDepth 100000
theorem findZ_at {α : Type} (p : α → Bool) : ∀ (l : List α) (i : Nat), findZ p i l = -1 ∨ ∃ j, ∃ h : j < l.length, findZ p i l = ((i + j : Nat) : Int) ∧ p l[j] = true := by
  intro l
  induction l with
  | nil=>intro i; exact .inl rfl
  | cons x l ih =>
    intro i
    simp only [findZ]
    cases e:p x with
    | true=>exact .inr ⟨0,by simp,by simp,by simpa using e⟩
    | false =>
      rcases ih (i+1) with h | ⟨j,hj,h1,h2⟩
      · exact .inl h
      · refine .inr ⟨j + 1, by simp; omega, ?_, by simpa using h2⟩
        rw [cond_false,h1]; omega
theorem findZ_le {α : Type} (p : α → Bool) : ∀ (l : List α) (i k : Nat) (h : k < l.length), p l[k] = true → findZ p i l ≤ ((i + k : Nat) : Int) := by
  intro l
  induction l with
  | nil=>intro i k h; simp at h
  | cons x l ih =>
    intro i k h hp
    simp only [findZ]
    cases e:p x with
    | true=>rw [cond_true]; omega
    | false =>
      cases k with
      | zero=>simp at hp; rw [hp] at e; cases e
      | succ k =>
        have:=ih (i+1) k (by simpa using h) (by simpa using hp)
        rw [cond_false]; omega
theorem anyC {α:Type} {p q:α→Bool}:∀ {l:List α},(∀ x∈l,p x=q x)→List.any l p=List.any l q:=by
  intro l
  induction l with
  | nil=>intro _; rfl
  | cons x l ih=>intro h; rw [List.any_cons,List.any_cons,h x (by simp),ih fun y hy=>h y (by simp [hy])]
theorem failsM_N {ns:List (List UInt8)} {v:List Int} (hl:ns.length=v.length) {c:Cnd} (hc:List.elem c.cn ns=true):failsM (List.zip ns v) c=failsN ns v c:=by
  unfold failsM failsN
  rw [(mgetD_zip c.cn ns v 0 hl hc).1,← not_ile]
  simp only [Int.ofNat_zero,Int.sub_zero,show ((0:Nat):Int)=0 from rfl]
  cases ile c.cl (List.getD v (Int.toNat (findZ (fun x=>x == c.cn) 0 ns)) 0)<;>cases c.cb<;>rfl
theorem fires_from (m:List ((List UInt8)×Int)) (l:List Rule) (s:List UInt8):∀ (suf pre:List Rule),l=pre++suf→List.any (firedI m pre.length suf) (firesB l s)=List.any suf (fun r => !(List.any r.rw (failsM m))&&(r.rl == s)):=by
  intro suf
  induction suf with
  | nil=>intro pre _; rfl
  | cons r suf ih =>
    intro pre h
    have e:=ih (pre++[r]) (by rw [h]; simp)
    rw [List.length_append,List.length_singleton] at e
    have hlt:pre.length < l.length:=by rw [h]; simp
    have hg:List.getD l pre.length d_rule=r:=by rw [getD_lt hlt]; simp [h]
    have hf:firesB l s (pre.length:Int)=(r.rl == s):=by
      unfold firesB
      rw [ileT (by omega),iltT (by simp; omega),toNat_nat,hg]
      rfl
    rw [List.any_cons]
    simp only [firedI]
    cases !(List.any r.rw (failsM m)) with
    | false=>rw [cond_false,e]; simp
    | true=>rw [cond_true,List.any_cons,e,hf]; simp
theorem hasN_elem {n:Net} {s:List UInt8} (h:hasN n s=true):List.elem s (namesL n)=true:=by
  obtain ⟨x,hx,hs⟩:=List.any_eq_true.1 h
  have:x.nn=s:=by simpa [isNode] using hs
  rw [List.elem_iff]
  exact List.mem_map.2 ⟨x,hx,this⟩
theorem known_elem {l:List Rule} {n:Net} (hk:knownB l n=true):∀ r∈l,∀ c∈r.rw,hasN n c.cn=true:=fun r hr c hc=>by
  have:=List.all_eq_true.1 hk r hr
  simp only [knownR,Bool.and_eq_true] at this
  exact List.all_eq_true.1 this.2 c hc
theorem dist_names {n:Net} (h:netB n=true):distB (namesL n)=true:=by
  simp only [netB,Bool.and_eq_true] at h
  refine allI_iff.2 fun j s hs => ?_
  rw [Nat.zero_add,Bool.not_eq_true']
  cases he:List.elem s ((namesL n).take j) with
  | false=>rfl
  | true =>
    rw [List.elem_iff] at he
    obtain ⟨k,hk,ek⟩:=List.getElem_of_mem he
    simp only [List.length_take] at hk
    simp only [namesL,List.getElem?_map,Option.map_eq_some_iff] at hs
    obtain ⟨x,hx,rfl⟩:=hs
    have h1:=allI_iff.1 h.2.2.1 j x hx
    simp only [nodeBad,Bool.not_eq_true',Bool.or_eq_false_iff,Nat.zero_add] at h1
    have h2:nodeZ n x.nn=(j:Int):=by simpa using h1.2
    have hkl : k < n.nds.length := by have : (namesL n).length = n.nds.length := by simp [namesL]
                                      omega
    have h3:isNode x.nn n.nds[k]=true:=by
      simp only [List.getElem_take,namesL,List.getElem_map] at ek
      simp [isNode,ek]
    have h4:=findZ_le (isNode x.nn) n.nds 0 k hkl h3
    unfold nodeZ at h2
    omega
theorem gv_ok {l:List Rule} {n:Net} (hn:netB n=true) (hk:knownB l n=true) {v:List Int} (hv:v.length=n.nds.length):(gvE l (namesL n) v == 0)=true:=by
  unfold gvE
  have h1:Nat.beq (namesL n).length v.length=true:=by rw [hv,namesL,List.length_map,Nat.beq_refl]
  have h3:List.all l (fun r=>List.all r.rw (fun c=>List.elem c.cn (namesL n)))=true:=List.all_eq_true.2 fun r hr=>List.all_eq_true.2 fun c hc=>hasN_elem (known_elem hk r hr c hc)
  rw [h1,dist_names hn,h3]
  rfl
theorem fired_some {l:List Rule} {n:Net} (hk:knownB l n=true) (s:List UInt8) {v:List Int} (hv:v.length=n.nds.length):List.any (firedL l (namesL n) v) (firesB l s)=someB l s n.nds v:=by
  have e:=fires_from (List.zip (namesL n) v) l s l [] rfl
  unfold firedL someB
  refine e.trans (anyC fun r hr => ?_)
  have hl:(namesL n).length=v.length:=by rw [hv,namesL,List.length_map]
  have:List.any r.rw (failsM (List.zip (namesL n) v))=List.any r.rw (failsN (namesL n) v):=anyC fun c hc=>failsM_N hl (hasN_elem (known_elem hk r hr c hc))
  rw [this]
  exact Bool.and_comm _ _
theorem maxLe (y : Int) : ∀ (m : List Int), (∃ z ∈ m, z ≤ y) → ∃ u ∈ m, u ≤ y ∧ ∀ z ∈ m, z ≤ y → z ≤ u := by
  intro m
  induction m with
  | nil=>rintro ⟨z,hz,_⟩; cases hz
  | cons a m ih =>
    intro h
    by_cases hm:∃ z∈m,z≤y
    · obtain ⟨u, hu, h1, h2⟩ := ih hm
      by_cases ha:a≤y∧u≤a
      · exact ⟨a,by simp,ha.1,fun z hz hzy=>by
          rcases List.mem_cons.1 hz with rfl | hz
          · omega
          · have:=h2 z hz hzy; omega⟩
      · refine ⟨u, by simp [hu], h1, fun z hz hzy => ?_⟩
        rcases List.mem_cons.1 hz with rfl | hz
        · omega
        · exact h2 z hz hzy
    · obtain ⟨z, hz, hzy⟩ := h
      have hza:z=a:=by
        rcases List.mem_cons.1 hz with h | h
        · exact h
        · exact absurd ⟨z,h,hzy⟩ hm
      subst hza
      refine ⟨z,by simp,hzy,fun z' hz' h' => ?_⟩
      rcases List.mem_cons.1 hz' with rfl | h
      · omega
      · exact absurd ⟨z',h,h'⟩ hm
open Classical in
noncomputable def topF (m:List Int) (y:Int):Int:=if h:∃ u∈m,u≤y∧∀ z∈m,z≤y→z≤u then Classical.choose h else 0
theorem topF_spec {m:List Int} {y:Int} (h:∃ z∈m,z≤y):topF m y∈m∧topF m y≤y∧∀ z∈m,z≤y→z≤topF m y:=by
  have h':=maxLe y m h
  unfold topF
  rw [dif_pos h']
  exact Classical.choose_spec h'
def Poss (nds:List Node) (v:List Int):Prop:=v.length=nds.length∧∀ (i:Nat) (h:i < nds.length) (h':i < v.length),(possS nds[i]).slo≤v[i]∧v[i]≤(possS nds[i]).shi
theorem top_marks {l:List Rule} {n:Net} {s:List UInt8} {v:List Int} (hv:Poss n.nds v) (i:Nat) (h:i < n.nds.length) (h':i < v.length):topF (padX n.nds[i] s l) v[i]∈padX n.nds[i] s l∧topF (padX n.nds[i] s l) v[i]≤v[i]∧∀ z∈padX n.nds[i] s l,z≤v[i]→z≤topF (padX n.nds[i] s l) v[i] :=
  topF_spec ⟨(possS n.nds[i]).slo,((padX_asc _ s l).2 _).2 (.inr rfl),(hv.2 i h h').1⟩
theorem complete_all {l : List Rule} {n : Net} {s : List UInt8} (hk : knownB l n = true) (hg : gapO l n s l s n.nds = none) {v : List Int} (hv : Poss n.nds v) : someB l s n.nds v = true := by
  obtain ⟨u,hu⟩:∃ u:List Int,u=List.zipWith topF (padM l n s) v:=⟨_,rfl⟩
  have hpl:(padM l n s).length=n.nds.length:=by simp [padM]
  have hul:u.length=n.nds.length:=by rw [hu,List.length_zipWith,hpl,hv.1,Nat.min_self]
  have hui:∀ (i:Nat) (h:i < n.nds.length) (h1:i < u.length) (h2:i < v.length),u[i]=topF (padX n.nds[i] s l) v[i]:=fun i h h1 h2=>by
    subst hu
    simp [padM]
  obtain ⟨k,hkc,hc⟩:=corner_all (padM l n s) u (by rw [hul,hpl]) (fun i x m hx hm=>by
    have hi:i < n.nds.length:=by have:=(List.getElem?_eq_some_iff.1 hm).1; omega
    have h1:i < u.length:=by omega
    have h2:i < v.length:=by have:=hv.1; omega
    rw [List.getElem?_eq_getElem h1] at hx
    cases hx
    have hm':m=padX n.nds[i] s l:=by
      rw [List.getElem?_eq_getElem (by omega)] at hm
      cases hm
      simp [padM]
    rw [hm',hui i hi h1 h2]
    exact (top_marks hv i hi h2).1)
  have hs:=firstN_none hg k (Nat.zero_le _) (by rw [Nat.zero_add]; exact hkc)
  simp only [Bool.not_eq_false'] at hs
  rw [hc] at hs
  obtain ⟨r,hr,hf⟩:=List.any_eq_true.1 hs
  refine List.any_eq_true.2 ⟨r,hr,?_⟩
  simp only [fitsR,Bool.and_eq_true] at hf ⊢
  refine ⟨hf.1,?_⟩
  have hf2:=hf.2
  unfold holdB holdN at hf2 ⊢
  rw [Bool.not_eq_true',List.any_eq_false] at hf2 ⊢
  intro c hcw
  have h1:=hf2 c hcw
  rw [Bool.not_eq_true] at h1 ⊢
  have hh:=known_elem hk r hr c hcw
  rcases findZ_at (fun x=>x == c.cn) (n.nds.map Node.nn) 0 with h | ⟨j,hj,hj1,hj2⟩
  · have := find_has n c.cn
    rw [hh] at this
    have h3:=iltN this
    unfold namesL at h3
    omega
  · have hjn : j < n.nds.length := by simpa using hj
    have hjv:j < v.length:=by have:=hv.1; omega
    have hju:j < u.length:=by omega
    have hcn:n.nds[j].nn=c.cn:=by simpa using hj2
    unfold failsN at h1 ⊢
    rw [hj1,Nat.zero_add,toNat_nat,getD_lt hju,hui j hjn hju hjv] at h1
    rw [hj1,Nat.zero_add,toNat_nat,getD_lt hjv]
    obtain ⟨t1,t2,t3⟩:=top_marks (l:=l) (s:=s) hv j hjn hjv
    obtain ⟨p1,p2⟩:=hv.2 j hjn hjv
    cases hcb:c.cb with
    | false =>
      rw [hcb] at h1
      have:¬ topF (padX n.nds[j] s l) v[j] < c.cl:=by
        intro hlt
        rw [iltT hlt] at h1
        cases h1
      rw [iltF (by omega)]
      rfl
    | true =>
      rw [hcb] at h1
      have hlt:topF (padX n.nds[j] s l) v[j] < c.cl:=by
        apply Classical.byContradiction
        intro hlt
        rw [iltF hlt] at h1
        cases h1
      have:v[j] < c.cl:=by
        apply Classical.byContradiction
        intro hge
        by_cases hs':(possS n.nds[j]).slo < c.cl
        · have hm : c.cl ∈ padX n.nds[j] s l := ((padX_asc _ s l).2 _).2 (.inl (by
            unfold levM levR
            rw [List.mem_flatMap]
            refine ⟨r,hr,List.mem_flatMap.2 ⟨c,hcw,?_⟩⟩
            unfold levC
            rw [hf.1,show (c.cn == n.nds[j].nn)=true by simp [hcn],iltT hs',ileT (show c.cl≤(possS n.nds[j]).shi by omega)]
            simp))
          have:=t3 _ hm (by omega)
          omega
        · have := t3 _ (((padX_asc n.nds[j] s l).2 _).2 (.inr rfl)) p1
          omega
      rw [iltT this]
      rfl
theorem net_levOk {n:Net} (h:netB n=true):levOkN n=true:=List.all_eq_true.2 fun x hx=>by
  have hb:=net_node h x hx
  simp only [nodeB,Bool.and_eq_true] at hb
  obtain ⟨_,_,_,h4,h5,h6⟩:=hb
  simp only [levOkX,Bool.and_eq_true]
  refine ⟨h4,h5,?_⟩
  cases h3:x.nk == 3 with
  | true=>rw [h3,cond_true] at h6; exact (Bool.and_eq_true_iff.1 h6).1
  | false =>
    rw [h3,cond_false] at h6
    cases h7:(x.nk == 1||x.nk == 2) with
    | false=>rw [h7] at h6; cases h6
    | true =>
      rw [h7,cond_true] at h6
      have:=(Bool.and_eq_true_iff.1 h6).1
      rw [Bool.not_eq_true'] at this
      have:=ileN this
      exact ileT (by omega)
theorem levAt_poss (at_:List UInt32) (i:Nat) {x:Node} (h:levOkX x=true):(possS x).slo≤levAt at_ i x∧levAt at_ i x≤(possS x).shi:=by
  simp only [levOkX,inR,Bool.and_eq_true] at h
  have o5:=ileI h.2.2
  unfold possS levAt
  cases h3:x.nk == 3 with
  | true =>
    have:(x.nk != 3)=false:=by simpa [bne] using h3
    rw [this]
    exact ⟨Int.le_refl _,Int.le_refl _⟩
  | false =>
    have:(x.nk != 3)=true:=by simpa [bne] using h3
    rw [this]
    cases ilt 0 (Int.ofNat at_.length) with
    | false=>exact ⟨Int.le_refl _,o5⟩
    | true =>
      have e6:=Int.tmod_nonneg (a:=Int.ofNat (UInt32.toNat (List.getD at_ (i%at_.length) d_u32))) (x.ng - x.ni+1) (by simp)
      have e7:=Int.tmod_lt_of_pos (Int.ofNat (UInt32.toNat (List.getD at_ (i%at_.length) d_u32))) (show 0 < x.ng - x.ni+1 by omega)
      simp only [Bool.and_true,cond_true,cond_false]
      omega
theorem levsI_len (at_:List UInt32):∀ (l:List Node) (i:Nat),(levsI at_ i l).length=l.length:=by
  intro l
  induction l with
  | nil=>intro i; rfl
  | cons x l ih=>intro i; simp [levsI,ih]
theorem levsI_get (at_:List UInt32):∀ (l:List Node) (i j:Nat) (h:j < l.length) (h':j < (levsI at_ i l).length),(levsI at_ i l)[j]=levAt at_ (i+j) l[j]:=by
  intro l
  induction l with
  | nil=>intro i j h; simp at h
  | cons x l ih =>
    intro i j h h'
    cases j with
    | zero=>rfl
    | succ j =>
      have:=ih (i+1) j (by simpa using h) (by simpa [levsI] using h')
      simp only [levsI,List.getElem_cons_succ]
      rw [this,show i+1+j=i+(j+1) by omega]
theorem levs_poss {n:Net} (h:levOkN n=true) (at_:List UInt32):Poss n.nds (levsL n.nds at_) :=
  ⟨levsI_len at_ n.nds 0,fun i hi hi'=>by
    have:=levsI_get at_ n.nds 0 i hi hi'
    unfold levsL
    rw [this]
    exact levAt_poss at_ _ (List.all_eq_true.1 h _ (List.getElem_mem hi))⟩
theorem ready_of {l:List Rule} {n:Net} (h:readyB l n=true):largeB l n=false∧okN n=true∧givenZ l n=0:=by
  simp only [readyB,Bool.and_eq_true,Bool.not_eq_true'] at h
  exact ⟨h.1,large_ok h.1,by simpa using h.2⟩
theorem large_small' {l:List Rule} {n:Net} (h:largeB l n=false):smallR l=true:=by
  simp only [largeB,Bool.or_eq_false_iff] at h
  obtain ⟨_,_,_,h4,_,_,h5⟩:=h
  have a:=iltN h4
  simp only [smallR,Bool.and_eq_true]
  refine ⟨nleT (by simp at a; omega),List.all_eq_true.2 fun x hx => ?_⟩
  have:=List.any_eq_false.1 h5 x hx
  simp only [longB,Bool.or_eq_true,not_or] at this
  have:=this.1
  exact nleT (by simp [ilt] at this; omega)
namespace lawCompletes
noncomputable def bd:Code:=(Tryz.f7.body).getD .skip
noncomputable def X:Ctx U El:=⟨E,tds,zeros,eqs,specOf [(12,awake.sp),(24,many.sp),(25,complete.sp),(29,ready.sp),(35,lc1C.sp),(39,levels.sp),(40,ufired.sp),(41,rnames.sp)],100000,81,dspecOf [],fun _=>none⟩
noncomputable def nmR:Norm U:=⟨[],[8],[],[],[],[],[]⟩
noncomputable def RR:Kont U El:=fun st=>normK nmR st (retFin [8] [])
noncomputable def nm1:Norm U:=⟨[],[2,3,4,5],[4,5],[],[],[],[(4,0,.rule),(5,0,.node),(5,1,.link)]⟩
noncomputable def nm2:Norm U:=⟨[],[4,5,9,10,13],[4,5,9],[(13,.int)],[],[],[(4,0,.rule),(5,0,.node),(5,1,.link)]⟩
abbrev Y1:=Int→(List UInt32)→(List Rule)→(List Node)→(List Lnk)→R
abbrev Y2:=Bool→(List Int)→(List Rule)→(List Node)→(List Lnk)→(List UInt8)→R
noncomputable def fr0 (l:List Rule) (n:Net) (kx:Int) (ats:List UInt32):St U El:=⟨[(0,(.lst .rule l)),(1,(.agg [(.lst .node n.nds),(.lst .link n.lks)])),(2,(.int .u8 kx)),(3,(.lst .u32 ats))],[]⟩
noncomputable def fr1 (dA:Int) (hA:List UInt32) (cA:List Rule) (bA:List Node) (aA:List Lnk):St U El:=⟨[(2,(.int .u8 dA)),(3,(.lst .u32 hA)),(4,(.ptr 4 0)),(5,(.ptr 5 0))],[(4,(.box 0 [(.lst .rule cA)])),(5,(.box 0 [(.lst .node bA),(.lst .link aA)]))]⟩
noncomputable def fr2 (fA:Bool) (gA:List Int) (cA:List Rule) (bA:List Node) (aA:List Lnk) (eA:List UInt8):St U El:=⟨[(4,(.ptr 4 0)),(5,(.ptr 5 0)),(9,(.ptr 9 0)),(10,(.bool fA)),(13,(.lst .int gA))],[(4,(.box 0 [(.lst .rule cA)])),(5,(.box 0 [(.lst .node bA),(.lst .link aA)])),(9,(.box 0 [(.str eA)]))]⟩
noncomputable def sh0 (l:List Rule) (n:Net) (kx:Int) (ats:List UInt32) (k1:Y1):R :=
  condB (!(true)) (some ((.bool false),[])) (condB (!(readyB l n)) (some ((.bool true),[])) (condB ((Int.ofNat (List.length n.lks)) == (0:Int)) (some ((.bool true),[])) (condB (ilt (20:Int) (Int.ofNat (List.length ats))) (some ((.bool true),[])) (k1 kx ats l n.nds n.lks))))
noncomputable def sh1 (dA:Int) (hA:List UInt32) (cA:List Rule) (bA:List Node) (aA:List Lnk) (k2:Y2):R :=
  chk ((Int.ofNat (List.length aA)) != 0) (chk (inb (Int.tmod (IntKind.wrap .i64 dA) (Int.ofNat (List.length aA))) (List.length aA)) (chk ((okN (⟨bA,aA⟩:Net)&&smallR cA)) (condB (manyB cA (⟨bA,aA⟩:Net) ((List.getD aA (Int.toNat (Int.tmod (IntKind.wrap .i64 dA) (Int.ofNat (List.length aA)))) d_link).ln)) (some ((.bool true),[])) (chk (okN (⟨bA,aA⟩:Net)) (condB ((compE cA (⟨bA,aA⟩:Net) ((List.getD aA (Int.toNat (Int.tmod (IntKind.wrap .i64 dA) (Int.ofNat (List.length aA)))) d_link).ln)) != (0:Int)) (some ((.bool ((compE cA (⟨bA,aA⟩:Net) ((List.getD aA (Int.toNat (Int.tmod (IntKind.wrap .i64 dA) (Int.ofNat (List.length aA)))) d_link).ln)) == (6:Int))),[])) (chk ((okN (⟨bA,aA⟩:Net)&&levOkN (⟨bA,aA⟩:Net))) (condB (!(compB cA (⟨bA,aA⟩:Net) ((List.getD aA (Int.toNat (Int.tmod (IntKind.wrap .i64 dA) (Int.ofNat (List.length aA)))) d_link).ln))) (k2 (compB cA (⟨bA,aA⟩:Net) ((List.getD aA (Int.toNat (Int.tmod (IntKind.wrap .i64 dA) (Int.ofNat (List.length aA)))) d_link).ln)) (compL cA (⟨bA,aA⟩:Net) ((List.getD aA (Int.toNat (Int.tmod (IntKind.wrap .i64 dA) (Int.ofNat (List.length aA)))) d_link).ln)) cA bA aA ((List.getD aA (Int.toNat (Int.tmod (IntKind.wrap .i64 dA) (Int.ofNat (List.length aA)))) d_link).ln)) (k2 (compB cA (⟨bA,aA⟩:Net) ((List.getD aA (Int.toNat (Int.tmod (IntKind.wrap .i64 dA) (Int.ofNat (List.length aA)))) d_link).ln)) (levsL (Net.nds (⟨bA,aA⟩:Net)) hA) cA bA aA ((List.getD aA (Int.toNat (Int.tmod (IntKind.wrap .i64 dA) (Int.ofNat (List.length aA)))) d_link).ln)))))))))
noncomputable def sh2 (fA:Bool) (gA:List Int) (cA:List Rule) (bA:List Node) (aA:List Lnk) (eA:List UInt8):R :=
  chk (okN (⟨bA,aA⟩:Net)) (chk ((rulesB cA&&(nle (List.length (namesL (⟨bA,aA⟩:Net))) 90000&&gvE cA (namesL (⟨bA,aA⟩:Net)) gA == 0))) (chk (nle (List.length (firedL cA (namesL (⟨bA,aA⟩:Net)) gA)) 90000) (some ((.bool (fA == (List.any (firedL cA (namesL (⟨bA,aA⟩:Net)) gA) (firesB cA eA)))),[]))))
noncomputable def ct1:Kont U El:=fun st=>exec X (cdp [1,1,1] bd) (.seq none (.region [(12,9)]) (.seq none .d (.seq none .d (.seq none .d (.seq none .d (.seq (some nm2) .d .d)))))) st RR (fun _ _=>none) RR
noncomputable def ct2:Kont U El:=fun st=>exec X (cdp [1,1,1,1,1,1,1,1,1] bd) .d st RR (fun _ _=>none) RR
theorem P0 (l n kx ats):exec X (cdp [] bd) (.seq none .d (.seq none .d (.seq (some nm1) .d (.seq none (.region [(12,9)]) (.seq none .d (.seq none .d (.seq none .d (.seq none .d (.seq (some nm2) .d .d))))))))) (fr0 l n kx ats) RR (fun _ _=>none) RR=sh0 l n kx ats (fun y0 y1 y2 y3 y4=>(hid ct1) (fr1 y0 y1 y2 y3 y4)):=by kernel_rfl
theorem P1 (dA hA cA bA aA):exec X (cdp [1,1,1] bd) (.seq none (.region [(12,9)]) (.seq none .d (.seq none .d (.seq none .d (.seq none .d (.seq (some nm2) .d .d)))))) (fr1 dA hA cA bA aA) RR (fun _ _=>none) RR=sh1 dA hA cA bA aA (fun y0 y1 y2 y3 y4 y5=>(hid ct2) (fr2 y0 y1 y2 y3 y4 y5)):=by kernel_rfl
theorem P2 (fA gA cA bA aA eA):exec X (cdp [1,1,1,1,1,1,1,1,1] bd) .d (fr2 fA gA cA bA aA eA) RR (fun _ _=>none) RR=sh2 fA gA cA bA aA eA:=by kernel_rfl
noncomputable def f2 (fA:Bool) (gA:List Int) (cA:List Rule) (bA:List Node) (aA:List Lnk) (eA:List UInt8):R:=sh2 fA gA cA bA aA eA
noncomputable def f1 (dA:Int) (hA:List UInt32) (cA:List Rule) (bA:List Node) (aA:List Lnk):R:=sh1 dA hA cA bA aA f2
noncomputable def f0 (l:List Rule) (n:Net) (kx:Int) (ats:List UInt32):R:=sh0 l n kx ats f1
theorem T2 (fA gA cA bA aA eA):(hid ct2) (fr2 fA gA cA bA aA eA)=f2 fA gA cA bA aA eA:=by
  refine (congrFun (hid_eq _) _).trans <| (P2 fA gA cA bA aA eA).trans ?_
  show _=sh2 fA gA cA bA aA eA
  rfl
theorem T1 (dA hA cA bA aA):(hid ct1) (fr1 dA hA cA bA aA)=f1 dA hA cA bA aA:=by
  refine (congrFun (hid_eq _) _).trans <| (P1 dA hA cA bA aA).trans ?_
  show _=sh1 dA hA cA bA aA f2
  simp only [T2]
theorem T0 (l n kx ats):exec X bd (.seq none .d (.seq none .d (.seq (some nm1) .d (.seq none (.region [(12,9)]) (.seq none .d (.seq none .d (.seq none .d (.seq none .d (.seq (some nm2) .d .d))))))))) (fr0 l n kx ats) RR (fun _ _=>none) RR=f0 l n kx ats:=by
  refine (P0 l n kx ats).trans ?_
  show _=sh0 l n kx ats f1
  simp only [T1]
theorem run (l n kx ats):runFn X bd (.seq none .d (.seq none .d (.seq (some nm1) .d (.seq none (.region [(12,9)]) (.seq none .d (.seq none .d (.seq none .d (.seq none .d (.seq (some nm2) .d .d))))))))) nmR [8] [] [(.lst .rule l),(.agg [(.lst .node n.nds),(.lst .link n.lks)]),(.int .u8 kx),(.lst .u32 ats)]=f0 l n kx ats:=T0 l n kx ats
theorem fin {l:List Rule} {n:Net} (hn:okN n=true) (hr:rulesB l=true) (hb:netB n=true) (hk:knownB l n=true) (is:Bool) (v:List Int) (s:List UInt8) (hv:v.length=n.nds.length) (he:is=someB l s n.nds v):f2 is v l n.nds n.lks s=outB true:=by
  show sh2 is v l n.nds n.lks s=_
  unfold sh2
  have hn':okN (⟨n.nds,n.lks⟩:Net)=true:=hn
  have h1:nle (namesL (⟨n.nds,n.lks⟩:Net)).length 90000=true:=by have:=okN_nds hn; simpa [namesL] using this
  have h2:(gvE l (namesL (⟨n.nds,n.lks⟩:Net)) v == 0)=true:=gv_ok hb hk hv
  have h3:nle (firedL l (namesL (⟨n.nds,n.lks⟩:Net)) v).length 90000=true:=nleT (by
    have:=firedI_len (List.zip (namesL (⟨n.nds,n.lks⟩:Net)) v) l 0
    have:=(rulesB_len hr).1
    unfold firedL
    omega)
  have h4:List.any (firedL l (namesL (⟨n.nds,n.lks⟩:Net)) v) (firesB l s)=someB l s n.nds v:=fired_some hk s hv
  rw [hn',hr,h1,h2,h3,h4,← he,beq_self_eq_true]
  rfl
theorem f0_eq (l : List Rule) (n : Net) (k : Int) (at_ : List UInt32) (h : (Lit.wf (.int .u8 k)) = true) : f0 l n k at_ = outB true := by
  have hk0:0≤k∧k≤255:=by
    have h':=h
    simp [Lit.wf,IntKind.min,IntKind.max,IntKind.signed,IntKind.bits] at h'
    omega
  show sh0 l n k at_ f1=_
  unfold sh0
  cases hr:readyB l n with
  | false=>rfl
  | true =>
    obtain ⟨hl,hn,hg⟩:=ready_of hr
    obtain ⟨g1,g2,g3⟩:=given0 hg
    cases h0:(Int.ofNat n.lks.length == 0) with
    | true=>rfl
    | false =>
      cases h20:ilt 20 (Int.ofNat at_.length) with
      | true=>rfl
      | false =>
        show f1 k at_ l n.nds n.lks=_
        show sh1 k at_ l n.nds n.lks f2=_
        unfold sh1
        have hp:0 < n.lks.length:=by
          rcases Nat.eq_zero_or_pos n.lks.length with e | e
          · rw [e] at h0; cases h0
          · exact e
        obtain ⟨q,rfl⟩:=Int.eq_ofNat_of_zero_le hk0.1
        have e1:Int.tmod (IntKind.wrap .i64 (q:Int)) (Int.ofNat n.lks.length)=((q%n.lks.length:Nat):Int):=by rw [wrapI (by omega) (by omega)]; rfl
        have e2:q%n.lks.length < n.lks.length:=Nat.mod_lt _ hp
        have e3:((Int.ofNat n.lks.length) != 0)=true:=by rw [bne,h0]; rfl
        have hn':okN (⟨n.nds,n.lks⟩:Net)=true:=hn
        have hv':levOkN (⟨n.nds,n.lks⟩:Net)=true:=net_levOk g2
        rw [e1,toNat_nat,inbT e2,e3,hn',large_small' hl,hv']
        obtain ⟨s,hs⟩:∃ s,s=(List.getD n.lks (q%n.lks.length) d_link).ln:=⟨_,rfl⟩
        rw [← hs]
        have hz:ilt (linkZ n s) 0=false:=by
          unfold linkZ
          rw [ilt_ile0,findZ_any]
          have:List.any n.lks (isLink s)=true:=List.any_eq_true.2 ⟨_,List.getElem_mem e2,by rw [hs,getD_lt e2]; simp [isLink]⟩
          rw [this]; rfl
        show condB (manyB l n s) _ (chk true (condB (compE l n s != 0) (outB (compE l n s == 6)) (chk (true&&true) (condB (!(compB l n s)) (f2 (compB l n s) (compL l n s) l n.nds n.lks s) (f2 (compB l n s) (levsL n.nds at_) l n.nds n.lks s)))))=_
        cases manyB l n s with
        | true=>rfl
        | false =>
          have hE:compE l n s=bif fewB l n s then 0 else 6:=by unfold compE; rw [hg,hz]; rfl
          cases hf:fewB l n s with
          | false=>rw [hE,hf]; rfl
          | true =>
            have hok:compOk l n s=true:=by unfold compOk; rw [hg,hz,hf]; rfl
            have hB:compB l n s=Option.isNone (gapO l n s l s n.nds):=by unfold compB; rw [hok]; rfl
            have hL:compL l n s=gapL l n s l s n.nds:=by unfold compL; rw [hok]; rfl
            rw [hE,hf,hB,hL]
            cases hgap:gapO l n s l s n.nds with
            | none =>
              have hc:=complete_all g3 hgap (levs_poss (net_levOk g2) at_)
              exact fin hn g1 g2 g3 true _ s (levs_poss (net_levOk g2) at_).1 hc.symm
            | some i =>
              have hgl:gapL l n s l s n.nds=corner (padM l n s) i:=by unfold gapL; rw [hgap]
              rw [hgl]
              have hx:=(firstN_some hgap).2.2
              simp only [Bool.not_eq_true'] at hx
              exact fin hn g1 g2 g3 false _ s (padM_len l n s i) hx.symm
theorem ok:CtxOk Tryz.prog X:=ctxOk tab (spC awake.spOk (spC many.spOk (spC complete.spOk (spC ready.spOk (spC lc1C.spOk (spC levels.spOk (spC ufired.spOk (spC rnames.spOk spN)))))))) dpN
theorem okM:MOk Tryz.prog X:=fun g sp h=>by cases h
theorem spec (l:List Rule) (n:Net) (kx:Int) (ats:List UInt32) (h:(Lit.wf (.int .u8 kx))=true):CallSpec Tryz.prog E 7 [(.lst .rule l),(.agg [(.lst .node n.nds),(.lst .link n.lks)]),(.int .u8 kx),(.lst .u32 ats)] (.bool (true)) [] :=
  runFn_sound ok okM Tryz.call7 Tryz.func7 (by kernel_rfl) (by kernel_rfl) (by kernel_rfl) (by show 4≤81; decide) (by decide) (by rfl) ((run l n kx ats).trans (f0_eq l n kx ats h))
noncomputable def sp:Sp U El:=fun args k=>match args with
  | [.lst .rule l,.agg [.lst .node n_nds,.lst .link n_lks],.int .u8 kx,.lst .u32 ats]=>chk (Lit.wf (.int .u8 kx)) (k (.bool (true)) [])
  | _=>none
theorem spOk:SpOk Tryz.prog E 7 sp where
  det:=fun vs=>by
    unfold sp
    split
    · exact det_c _ _ _
    · exact ⟨none,fun _=>rfl⟩
  ok:=fun vs k r h=>by
    unfold sp at h
    split at h
    · obtain ⟨h1, h2⟩ := chk_some h
      exact ⟨_,_,spec _ ⟨_,_⟩ _ _ h1,h2⟩
    · cases h
end lawCompletes
end Go.Proofs.YthdimnlkcgchoaaGreat
