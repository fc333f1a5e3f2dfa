/- The hull: wrapping finds it; its corners, and where its points are. Plain facts. -/
import Derived.Test.YtcabnkclelgoeaaCO
namespace Go.Proofs.Ytcabnkclelgoeaa
set_option linter.unusedSectionVars false
set_option linter.unusedSimpArgs false
set_option linter.unusedVariables false
set_option maxRecDepth 100000
theorem side_turn {P:List Pt} {a b c:Pt} (h1:Side P a b) (h2:Side P b c) (ha:a∈P) (hc:c∈P) (hac:c≠a):0 < trn a b c:=by
  obtain ⟨k1,k2⟩:=h1.2 c hc
  rcases Int.lt_or_eq_of_le k1 with h | h
  · exact h
  exfalso
  obtain ⟨q1,q2⟩:=k2 h.symm
  rcases q1 with q1 | q1
  · exact h2.1 q1.symm
  have e:trn b c a=0:=by
    have:trn b c a=trn a b c:=by unfold trn; grind
    omega
  obtain ⟨r1,_⟩:=(h2.2 a ha).2 e
  rcases r1 with r1 | r1
  · exact hac r1.symm
  have e1:sqr b a=sqr a b:=by unfold sqr; grind
  have e2:sqr b c=sqr a c - 2 * dot a b c+sqr a b:=by unfold sqr dot; grind
  have e3:dot a b c * dot a b c=sqr a c * sqr a b - trn a b c * trn a b c:=by unfold sqr dot trn; grind
  rw [← h] at e3
  generalize dot a b c=D at *
  generalize sqr a c=S at *
  generalize sqr a b=T at *
  have hS:0 < S:=by omega
  have h5:D * D≤D * S:=Int.mul_le_mul_of_nonneg_left (by omega) q2
  have h6:D * S < S * S:=Int.mul_lt_mul_of_pos_right (by omega) hS
  have h7:S * S < S * T:=Int.mul_lt_mul_of_pos_left q1 hS
  omega
noncomputable def leastL (m:Pt) (l:List Pt):Pt:=l.foldl (fun m x=>bif ltB x m then x else m) m
theorem least_spec : ∀ (l : List Pt) (m : Pt), leastL m l ∈ m :: l ∧ ∀ x ∈ m :: l, leP (leastL m l) x := by
  intro l
  induction l with
  | nil=>intro m; exact ⟨by simp [leastL],fun x hx=>by rw [List.mem_singleton.1 hx]; exact .inl rfl⟩
  | cons y l ih =>
    intro m
    show leastL (bif ltB y m then y else m) l∈_∧∀ x∈_,leP (leastL (bif ltB y m then y else m) l) x
    cases h:ltB y m
    · obtain ⟨i1, i2⟩ := ih m
      refine ⟨?_,fun x hx => ?_⟩
      · rcases List.mem_cons.1 i1 with k | k
        · exact List.mem_cons.2 (.inl k)
        · exact List.mem_cons.2 (.inr (List.mem_cons_of_mem _ k))
      · rcases List.mem_cons.1 hx with rfl | hx
        · exact i2 _ (by simp)
        · rcases List.mem_cons.1 hx with rfl | hx
          · exact leP_trans (i2 m (by simp)) (ltB_false.1 h)
          · exact i2 x (by simp [hx])
    · obtain ⟨i1, i2⟩ := ih y
      refine ⟨List.mem_cons_of_mem _ i1,fun x hx => ?_⟩
      rcases List.mem_cons.1 hx with rfl | hx
      · exact leP_trans (i2 y (by simp)) (.inr (ltB_iff.1 h))
      · exact i2 x hx
noncomputable def wrapGo (l:List Pt) (start:Pt):Nat→Pt→List Pt→List Pt
  | 0,_,out=>out
  | n+1,a,out=>bif eqP (scanL a l) start||eqP (scanL a l) a then out++[a] else wrapGo l start n (scanL a l) (out++[a])
noncomputable def startL (l:List Pt):Pt:=leastL (l.getD 0 d_pt) l
noncomputable def wrapL (l:List Pt):List Pt:=wrapGo l (startL l) (l.length+1) (startL l) []
theorem eqP_false {a b:Pt} (h:a≠b):eqP a b=false:=Bool.eq_false_iff.2 fun k=>h (eqP_iff.1 k)
theorem wrap_go {l h : List Pt} {m : Pt} (hs : ∀ x ∈ h, x ∈ l) (hn : h.Nodup) (hm : h.head? = some m) : ∀ (h2 : List Pt) (a : Pt) (h1 : List Pt) (n : Nat), h = h1 ++ a :: h2 → Pa (Side l) (a :: h2 ++ [m]) → h2.length < n → wrapGo l m n a h1 = h := by
  have hml:m∈l:=hs m (List.mem_of_mem_head? (by rw [hm]; exact rfl))
  intro h2
  induction h2 with
  | nil =>
    intro a h1 n e hp hl
    obtain ⟨n,rfl⟩:∃ k,n=k+1:=⟨n - 1,by simp at hl; omega⟩
    unfold wrapGo
    rw [scan_side hp.1 hml,eqP_iff.2 rfl]
    exact e.symm
  | cons b h2 ih =>
    intro a h1 n e hp hl
    obtain ⟨n,rfl⟩:∃ k,n=k+1:=⟨n - 1,by simp at hl; omega⟩
    have hbl:b∈l:=hs b (by rw [e]; simp)
    have hab:a≠b:=hp.1.1
    have hbm:b≠m:=by
      rintro rfl
      rw [e] at hm hn
      cases h1 with
      | nil=>simp at hm; exact hab hm
      | cons c h1 =>
        simp at hm
        subst hm
        rw [List.cons_append,List.nodup_cons] at hn
        exact hn.1 (by simp)
    unfold wrapGo
    rw [scan_side hp.1 hbl,eqP_false hbm,eqP_false (Ne.symm hab)]
    exact ih b (h1++[a]) n (by rw [e]; simp) hp.2 (by simp at hl; omega)
theorem nodup_len:∀ {h l:List Pt},h.Nodup→(∀ x∈h,x∈l)→h.length≤l.length:=by
  intro h
  induction h with
  | nil=>intro l _ _; simp
  | cons x h ih =>
    intro l hn hs
    obtain ⟨l1,l2,rfl⟩:=List.append_of_mem (hs x (by simp))
    have:=ih (l:=l1++l2) (List.nodup_cons.1 hn).2 fun y hy=>by
      have hxy:y≠x:=by rintro rfl; exact (List.nodup_cons.1 hn).1 hy
      have:=hs y (List.mem_cons_of_mem _ hy)
      simp only [List.mem_append,List.mem_cons] at this ⊢
      rcases this with k | k | k
      · exact .inl k
      · exact absurd k hxy
      · exact .inr k
    simp only [List.length_append,List.length_cons] at this ⊢
    omega
theorem start_eq {l:List Pt} {m:Pt} (hm:m∈l) (hle:∀ x∈l,leP m x):startL l=m:=by
  unfold startL
  cases l with
  | nil=>cases hm
  | cons y l =>
    have e:(y :: l).getD 0 d_pt=y:=rfl
    rw [e]
    obtain ⟨i1,i2⟩:=least_spec (y :: l) y
    refine le_antisymm (i2 m (List.mem_cons_of_mem _ hm)) (hle _ ?_)
    rcases List.mem_cons.1 i1 with k | k
    · rw [k]; simp
    · exact k
theorem wrap_hull {l h:List Pt} (H:HullOf l h):wrapL l=h:=by
  obtain ⟨m,hm,hle,hpa⟩:=H.path
  have hml:m∈l:=H.sub m (List.mem_of_mem_head? (by rw [hm]; exact rfl))
  unfold wrapL
  rw [start_eq hml hle]
  have hlen:=nodup_len H.nodup H.sub
  cases h with
  | nil=>simp at hm
  | cons a h2 =>
    simp at hm
    subst hm
    exact wrap_go H.sub H.nodup rfl h2 a [] _ rfl hpa (by simp only [List.length_cons] at hlen; omega)
theorem hull_mem {P Q h:List Pt} (H:HullOf P h) (hQ:∀ x∈Q,x∈P) (hh:∀ x∈h,x∈Q):HullOf Q h:=by
  obtain ⟨m,hm,hle,hpa⟩:=H.path
  exact ⟨⟨m,hm,fun x hx=>hle x (hQ x hx),pa_imp (fun a b k=>side_mem hQ k) hpa⟩,H.nodup,hh,H.two⟩
noncomputable def hulC (l:List Pt):List Pt:=bif (Int.ofNat (ascL l).length) == (1:Int) then ascL l else hullS (ascL l)
theorem scan_one {p:Pt}:∀ {l:List Pt},(∀ x∈l,x=p)→l.foldl (scanS p) p=p:=by
  intro l
  induction l with
  | nil=>intro _; rfl
  | cons x l ih =>
    intro h
    have hx:=h x (by simp)
    subst hx
    have:scanS x x x=x:=by unfold scanS; rw [eqP_iff.2 rfl]; rfl
    rw [List.foldl_cons,this]
    exact ih fun y hy=>h y (by simp [hy])
theorem hulC_cases {l:List Pt} (h:l≠[]):(∃ p,ascL l=[p]∧hulC l=[p])∨(2≤(ascL l).length∧hulC l=hullS (ascL l)∧HullOf l (hulC l)):=by
  unfold hulC
  match he:ascL l with
  | [] =>
    exfalso
    obtain ⟨x,hx⟩:=List.exists_mem_of_ne_nil l h
    have:=(ascL_mem l x).2 hx
    rw [he] at this
    cases this
  | [p]=>exact .inl ⟨p,rfl,rfl⟩
  | a :: b :: s =>
    refine .inr ⟨by simp,?_⟩
    rw [show ((Int.ofNat (a :: b :: s).length) == (1:Int))=false from beq_eq_false_iff_ne.2 (by simp; omega)]
    refine ⟨rfl,?_⟩
    have H:=hull_of (l:=a :: b :: s) (by rw [← he]; exact ascL_asc l) (by simp)
    exact hull_mem H (fun x hx=>by rw [← he]; exact (ascL_mem l x).2 hx) fun x hx=>(ascL_mem l x).1 (by rw [he]; exact H.sub x hx)
theorem hulC_wrap {l:List Pt} (h:l≠[]):hulC l=wrapL l:=by
  rcases hulC_cases h with ⟨p,e1,e2⟩ | ⟨_,_,H⟩
  · have hp : ∀ x ∈ l, x = p := fun x hx => by
      have:=(ascL_mem l x).2 hx
      rw [e1] at this
      exact List.mem_singleton.1 this
    have hpl:p∈l:=(ascL_mem l p).1 (by rw [e1]; simp)
    rw [e2]
    unfold wrapL
    rw [start_eq hpl fun x hx => .inl (hp x hx).symm]
    unfold wrapGo scanL
    rw [scan_one hp,eqP_iff.2 rfl]
    rfl
  · exact (wrap_hull H).symm
theorem hulC_sub {l:List Pt} (h:l≠[]):∀ x∈hulC l,x∈l:=by
  rcases hulC_cases h with ⟨p,e1,e2⟩ | ⟨_,_,H⟩
  · intro x hx
    rw [e2,← e1] at hx
    exact (ascL_mem l x).1 hx
  · exact H.sub
theorem hulC_ne {l:List Pt} (h:l≠[]):hulC l≠[]:=by
  rcases hulC_cases h with ⟨p,e1,e2⟩ | ⟨_,_,H⟩
  · rw [e2]; simp
  · intro e
    have:=H.two
    rw [e] at this
    simp at this
theorem hulC_le {l:List Pt} (h:l≠[]):(hulC l).length≤l.length:=by
  rcases hulC_cases h with ⟨p,e1,e2⟩ | ⟨_,_,H⟩
  · rw [e2,← e1]; exact ascL_le l
  · exact nodup_len H.nodup H.sub
theorem hulC_again {l : List Pt} (h : l ≠ []) : hulC (hulC l) = hulC l := by
  rcases hulC_cases h with ⟨p,e1,e2⟩ | ⟨_,_,H⟩
  · rw [e2]
    have:ascL [p]=[p]:=by
      have h1:=ascL_le [p]
      have h2:=(ascL_mem [p] p).2 (by simp)
      cases hs:ascL [p] with
      | nil=>rw [hs] at h2; cases h2
      | cons x s =>
        rw [hs] at h1 h2
        have:s=[]:=by simpa using h1
        subst this
        rw [List.mem_singleton.1 h2]
    unfold hulC
    rw [this]
    rfl
  · rw [hulC_wrap (hulC_ne h)]
    exact wrap_hull (hull_mem H H.sub fun x hx=>hx)
theorem btw_of {T D u w:Int} (hT:0 < T) (h0:0≤D) (h1:D≤T) (h:w * T=D * u):(0≤u→0≤w∧w≤u)∧(u≤0→u≤w∧w≤0):=by
  constructor
  · intro hu
    have a:=Int.mul_nonneg h0 hu
    have b:=Int.mul_nonneg (show 0≤T - D by omega) hu
    have e:(T - D) * u=(u - w) * T:=by grind
    constructor
    · rcases Int.lt_or_le w 0 with k | k
      · have:=Int.mul_neg_of_neg_of_pos k hT; omega
      · exact k
    · rcases Int.lt_or_le (u - w) 0 with k | k
      · have:=Int.mul_neg_of_neg_of_pos k hT; omega
      · omega
  · intro hu
    have a:=Int.mul_nonneg h0 (show 0 ≤ -u by omega)
    have b:=Int.mul_nonneg (show 0≤T - D by omega) (show 0 ≤ -u by omega)
    have e:(T - D) * -u=(w - u) * T:=by grind
    have e2:D * -u=(-w) * T:=by grind
    constructor
    · rcases Int.lt_or_le (w - u) 0 with k | k
      · have:=Int.mul_neg_of_neg_of_pos k hT; omega
      · omega
    · rcases Int.lt_or_le (-w) 0 with k | k
      · have:=Int.mul_neg_of_neg_of_pos k hT; omega
      · omega
theorem sq_nn (x:Int):0≤x * x:=by
  rcases Int.lt_or_le x 0 with k | k
  · have:=Int.mul_nonneg (show 0 ≤ -x by omega) (show 0 ≤ -x by omega); rw [Int.neg_mul_neg] at this; exact this
  · exact Int.mul_nonneg k k
theorem nodup_inj {l:List Pt} (h:l.Nodup) {j k:Nat} (hj:j < l.length) (hk:k < l.length) (e:l[j]=l[k]):j=k:=by
  rcases Nat.lt_trichotomy j k with c | c | c
  · exact absurd e (List.pairwise_iff_getElem.1 h j k hj hk c)
  · exact c
  · exact absurd e.symm (List.pairwise_iff_getElem.1 h k j hk hj c)
theorem btw_iff {n a b:Int}:btw n a b=true↔(a≤n∧n≤b)∨(b≤n∧n≤a):=by simp [btw,ile]
theorem side_on {P : List Pt} {a b q : Pt} (h : Side P a b) (hq : q ∈ P) (e : trn a b q = 0) : onB a b q = true := by
  obtain ⟨k1,k2⟩:=(h.2 q hq).2 e
  unfold onB
  rw [beq_iff_eq.2 e,Bool.true_and,Bool.and_eq_true,btw_iff,btw_iff]
  rcases k1 with rfl | k1
  · constructor<;>omega
  · have e1 : dot a b q * (b.px - a.px) = (q.px - a.px) * sqr a b + (b.py - a.py) * trn a b q := by unfold dot sqr trn; grind
    have e2:dot a b q * (b.py - a.py)=(q.py - a.py) * sqr a b - (b.px - a.px) * trn a b q:=by unfold dot sqr trn; grind
    have e3:dot a b q * dot a b q=sqr a q * sqr a b - trn a b q * trn a b q:=by unfold sqr dot trn; grind
    have e4:0≤sqr a q:=by
      unfold sqr
      have:=sq_nn (a.px - q.px)
      have:=sq_nn (a.py - q.py)
      omega
    rw [e] at e1 e2 e3
    have hT:0 < sqr a b:=by omega
    have hD:dot a b q≤sqr a b:=by
      rcases Int.lt_or_le (sqr a b) (dot a b q) with k | k
      · exfalso
        generalize dot a b q=D at *
        generalize sqr a q=S at *
        generalize sqr a b=T at *
        have h5:T * T < D * T:=Int.mul_lt_mul_of_pos_right k hT
        have h6:D * T < D * D:=Int.mul_lt_mul_of_pos_left k (by omega)
        have h7:S * T≤T * T:=Int.mul_le_mul_of_nonneg_right (by omega) (by omega)
        omega
      · exact k
    have b1:=btw_of hT k2 hD (u:=b.px - a.px) (w:=q.px - a.px) (by omega)
    have b2:=btw_of hT k2 hD (u:=b.py - a.py) (w:=q.py - a.py) (by omega)
    constructor
    · rcases Int.le_total 0 (b.px - a.px) with k | k
      · have:=b1.1 k; omega
      · have:=b1.2 k; omega
    · rcases Int.le_total 0 (b.py - a.py) with k | k
      · have:=b2.1 k; omega
      · have:=b2.2 k; omega
theorem on_y {a b q:Pt} (h:onB a b q=true):(a.py≤q.py∧q.py≤b.py)∨(b.py≤q.py∧q.py≤a.py):=by
  unfold onB at h
  simp only [Bool.and_eq_true] at h
  exact btw_iff.1 h.2.2
theorem cross_one {P:List Pt} {a b c d:Pt} {y:Int} (h1:Side P a b) (h2:Side P c d) (ha:a∈P) (hb:b∈P) (hc:c∈P) (hd:d∈P) (u1:a.py≤y) (u2:y < b.py) (u3:c.py≤y) (u4:y < d.py):a=c:=by
  have key:(d.py - y) * trn a b c+(y - c.py) * trn a b d+(b.py - y) * trn c d a+(y - a.py) * trn c d b=0:=by unfold trn; grind
  have t1:=Int.mul_nonneg (show 0≤d.py - y by omega) (h1.2 c hc).1
  have t2:=Int.mul_nonneg (show 0≤y - c.py by omega) (h1.2 d hd).1
  have t3:=Int.mul_nonneg (show 0≤b.py - y by omega) (h2.2 a ha).1
  have t4:=Int.mul_nonneg (show 0≤y - a.py by omega) (h2.2 b hb).1
  have z1:trn a b c=0:=by
    have e:(d.py - y) * trn a b c=0:=by omega
    rcases Int.mul_eq_zero.1 e with k | k
    · omega
    · exact k
  have z2:trn c d a=0:=by
    have e:(b.py - y) * trn c d a=0:=by omega
    rcases Int.mul_eq_zero.1 e with k | k
    · omega
    · exact k
  have o1:=on_y (side_on h1 hc z1)
  have o2:=on_y (side_on h2 ha z2)
  have ey:a.py=c.py:=by omega
  refine Pt.ext' ?_ ey
  unfold trn at z1
  rw [← ey,Int.sub_self,Int.mul_zero,Int.zero_sub] at z1
  have:(b.py - a.py) * (c.px - a.px)=0:=by omega
  rcases Int.mul_eq_zero.1 this with k | k<;>omega
noncomputable def tgB (lo hi p:Pt):Bool:=ile lo.py p.py&&(ilt p.py hi.py&&ilt 0 (trn lo hi p))
noncomputable def tog (a b p:Pt):Bool:=bif ilt b.py a.py then tgB b a p else tgB a b p
theorem tog_side {P:List Pt} {a b q:Pt} (h:Side P a b) (hq:q∈P) (ho:onB a b q=false):tog a b q=true↔a.py≤q.py∧q.py < b.py:=by
  have k1:=(h.2 q hq).1
  unfold tog
  by_cases hl:b.py < a.py
  · rw [iltT hl, cond_true]
    have e:trn b a q = - trn a b q:=by unfold trn; grind
    unfold tgB
    rw [e,iltF (show ¬ (0:Int) < - trn a b q by omega)]
    simp only [Bool.and_false]
    constructor
    · intro h; cases h
    · intro h; omega
  · rw [iltF hl, cond_false]
    have hz:trn a b q≠0:=fun e=>by rw [side_on h hq e] at ho; cases ho
    unfold tgB
    rw [iltT (show 0 < trn a b q by omega)]
    simp [ile,ilt]
noncomputable def pairs:List Pt→List (Pt×Pt)
  | a :: b :: l=>(a,b) :: pairs (b :: l)
  | _=>[]
theorem pairs_pa {S:Pt→Pt→Prop}:∀ {l:List Pt},Pa S l→∀ e∈pairs l,S e.1 e.2:=by
  intro l
  induction l with
  | nil=>intro _ e h; cases h
  | cons a l ih =>
    intro hp e he
    cases l with
    | nil=>cases he
    | cons b l =>
      rcases List.mem_cons.1 he with rfl | he
      · exact hp.1
      · exact ih hp.2 e he
theorem pairs_fst:∀ (l:List Pt) (m:Pt),(pairs (l++[m])).map (·.1)=l:=by
  intro l
  induction l with
  | nil=>intro m; rfl
  | cons a l ih =>
    intro m
    cases l with
    | nil=>rfl
    | cons b l =>
      show a :: (pairs (b :: l++[m])).map (·.1)=_
      rw [ih m]
theorem pairs_mem : ∀ {l : List Pt}, ∀ e ∈ pairs l, e.1 ∈ l ∧ e.2 ∈ l := by
  intro l
  induction l with
  | nil=>intro e h; cases h
  | cons a l ih =>
    intro e he
    cases l with
    | nil=>cases he
    | cons b l =>
      rcases List.mem_cons.1 he with rfl | he
      · exact ⟨by simp,by simp⟩
      · obtain ⟨h1, h2⟩ := ih e he
        exact ⟨List.mem_cons_of_mem _ h1,List.mem_cons_of_mem _ h2⟩
theorem pairs_get:∀ {l:List Pt} {i:Nat} (h:i+1 < l.length),(l[i],l[i+1])∈pairs l:=by
  intro l
  induction l with
  | nil=>intro i h; simp at h
  | cons a l ih =>
    intro i h
    cases l with
    | nil=>simp at h
    | cons b l =>
      cases i with
      | zero=>exact List.mem_cons_self
      | succ i=>exact List.mem_cons_of_mem _ (ih (i:=i) (by simpa using h))
theorem hull_nb {P h:List Pt} {m:Pt} (H:HullOf P h) (hm:h.head? = some m) (hpa:Pa (Side P) (h++[m])) (h3:3≤h.length) {b:Pt} (hb:b∈h):∃ a c,(a,b)∈pairs (h++[m])∧(b,c)∈pairs (h++[m])∧0 < trn a b c:=by
  obtain ⟨i,hi,rfl⟩:=List.mem_iff_getElem.1 hb
  have hmz:m=h[0]:=by
    cases h with
    | nil=>simp at hi
    | cons x h=>simp at hm; exact hm.symm
  have inj:∀ (j k:Nat) (hj:j < h.length) (hk:k < h.length),h[j]=h[k]→j=k:=fun j k hj hk e=>nodup_inj H.nodup hj hk e
  have nx:∃ k,∃ hk:k < h.length,(h[i],h[k])∈pairs (h++[m])∧(k=i+1∨(i+1=h.length∧k=0)):=by
    have hp:=pairs_get (l:=h++[m]) (i:=i) (by simp; omega)
    rw [List.getElem_append_left hi] at hp
    by_cases hl:i+1 < h.length
    · rw [List.getElem_append_left hl] at hp
      exact ⟨i+1,hl,hp,.inl rfl⟩
    · refine ⟨0, by omega, ?_, .inr ⟨by omega, rfl⟩⟩
      rw [List.getElem_append_right (by omega)] at hp
      simp only [List.getElem_singleton] at hp
      rw [hmz] at hp ⊢
      exact hp
  have pv:∃ k,∃ hk:k < h.length,(h[k],h[i])∈pairs (h++[m])∧(i=k+1∨(k+1=h.length∧i=0)):=by
    by_cases hl:i=0
    · subst hl
      have hk:h.length - 1 < h.length:=by omega
      refine ⟨h.length - 1,hk,?_,.inr ⟨by omega,rfl⟩⟩
      have hp:=pairs_get (l:=h++[m]) (i:=h.length - 1) (by simp; omega)
      rw [List.getElem_append_left hk,List.getElem_append_right (by omega)] at hp
      simp only [List.getElem_singleton] at hp
      rw [hmz] at hp ⊢
      exact hp
    · have hk : i - 1 < h.length := by omega
      refine ⟨i - 1,hk,?_,.inl (by omega)⟩
      have hp:=pairs_get (l:=h++[m]) (i:=i - 1) (by simp; omega)
      rw [List.getElem_append_left hk,List.getElem_append_left (by omega)] at hp
      have e:i - 1+1=i:=by omega
      simp only [e] at hp
      exact hp
  obtain ⟨k,hk,p1,c1⟩:=nx
  obtain ⟨j,hj,p2,c2⟩:=pv
  refine ⟨h[j],h[k],p2,p1,?_⟩
  refine side_turn (pairs_pa hpa _ p2) (pairs_pa hpa _ p1) (H.sub _ (List.getElem_mem hj)) (H.sub _ (List.getElem_mem hk)) fun e => ?_
  have:=inj k j hk hj e
  omega
theorem ex_min:∀ (h:List Pt),h≠[]→∃ b∈h,∀ x∈h,b.py≤x.py:=by
  intro h
  induction h with
  | nil=>intro k; exact absurd rfl k
  | cons a h ih =>
    intro _
    cases h with
    | nil=>exact ⟨a,by simp,fun x hx=>by rw [List.mem_singleton.1 hx]; exact Int.le_refl _⟩
    | cons c h =>
      obtain ⟨b,hb,hx⟩:=ih (by simp)
      rcases Int.le_total a.py b.py with k | k
      · exact ⟨a,by simp,fun x hx'=>by
          rcases List.mem_cons.1 hx' with rfl | hx'
          · exact Int.le_refl _
          · have:=hx x hx'; omega⟩
      · exact ⟨b,List.mem_cons_of_mem _ hb,fun x hx'=>by
          rcases List.mem_cons.1 hx' with rfl | hx'
          · exact k
          · exact hx x hx'⟩
theorem ex_max:∀ (h:List Pt),h≠[]→∃ b∈h,∀ x∈h,x.py≤b.py:=by
  intro h
  induction h with
  | nil=>intro k; exact absurd rfl k
  | cons a h ih =>
    intro _
    cases h with
    | nil=>exact ⟨a,by simp,fun x hx=>by rw [List.mem_singleton.1 hx]; exact Int.le_refl _⟩
    | cons c h =>
      obtain ⟨b,hb,hx⟩:=ih (by simp)
      rcases Int.le_total b.py a.py with k | k
      · exact ⟨a,by simp,fun x hx'=>by
          rcases List.mem_cons.1 hx' with rfl | hx'
          · exact Int.le_refl _
          · have:=hx x hx'; omega⟩
      · exact ⟨b,List.mem_cons_of_mem _ hb,fun x hx'=>by
          rcases List.mem_cons.1 hx' with rfl | hx'
          · exact k
          · exact hx x hx'⟩
theorem hull_low {P h:List Pt} {m q:Pt} (H:HullOf P h) (hm:h.head? = some m) (hpa:Pa (Side P) (h++[m])) (h3:3≤h.length) (hq:q∈P):∃ x∈h,x.py≤q.py:=by
  obtain ⟨b,hb,hmin⟩:=ex_min h (fun e=>by rw [e] at h3; simp at h3)
  refine ⟨b,hb,?_⟩
  obtain ⟨a,c,p1,p2,ht⟩:=hull_nb H hm hpa h3 hb
  have inh:∀ x∈h++[m],x∈h:=fun x hx=>by
    rcases List.mem_append.1 hx with hx | hx
    · exact hx
    · rw [List.mem_singleton.1 hx]; exact List.mem_of_mem_head? (by rw [hm]; exact rfl)
  have ha:=hmin a (inh _ (pairs_mem _ p1).1)
  have hc:=hmin c (inh _ (pairs_mem _ p2).2)
  have s1:=((pairs_pa hpa _ p1).2 q hq).1
  have s2:=((pairs_pa hpa _ p2).2 q hq).1
  simp only at s1 s2
  rcases Int.lt_or_le q.py b.py with k | k
  · exfalso
    have key:trn a b c * (b.py - q.py)=trn b c q * (b.py - a.py) - trn a b q * (c.py - b.py):=by unfold trn; grind
    have t1:=Int.mul_pos ht (show 0 < b.py - q.py by omega)
    have t2:=Int.mul_nonneg s2 (show 0≤a.py - b.py by omega)
    have t3:=Int.mul_nonneg s1 (show 0≤c.py - b.py by omega)
    have e:trn b c q * (b.py - a.py) = - (trn b c q * (a.py - b.py)):=by grind
    omega
  · exact k
theorem hull_high {P h:List Pt} {m q:Pt} (H:HullOf P h) (hm:h.head? = some m) (hpa:Pa (Side P) (h++[m])) (h3:3≤h.length) (hq:q∈P) (hon:∀ e∈pairs (h++[m]),onB e.1 e.2 q=false):∃ x∈h,q.py < x.py:=by
  obtain ⟨b,hb,hmax⟩:=ex_max h (fun e=>by rw [e] at h3; simp at h3)
  refine ⟨b,hb,?_⟩
  obtain ⟨a,c,p1,p2,ht⟩:=hull_nb H hm hpa h3 hb
  have inh:∀ x∈h++[m],x∈h:=fun x hx=>by
    rcases List.mem_append.1 hx with hx | hx
    · exact hx
    · rw [List.mem_singleton.1 hx]; exact List.mem_of_mem_head? (by rw [hm]; exact rfl)
  have ha:=hmax a (inh _ (pairs_mem _ p1).1)
  have hc:=hmax c (inh _ (pairs_mem _ p2).2)
  have s1:=((pairs_pa hpa _ p1).2 q hq).1
  have s2:=((pairs_pa hpa _ p2).2 q hq).1
  simp only at s1 s2
  rcases Int.lt_or_le q.py b.py with k | k
  · exact k
  · exfalso
    have key:trn a b c * (q.py - b.py)=trn a b q * (c.py - b.py) - trn b c q * (b.py - a.py):=by unfold trn; grind
    have n1:trn a b q≠0:=fun e=>by have:=hon _ p1; rw [side_on (pairs_pa hpa _ p1) hq e] at this; cases this
    have n2:trn b c q≠0:=fun e=>by have:=hon _ p2; rw [side_on (pairs_pa hpa _ p2) hq e] at this; cases this
    have t1:=Int.mul_nonneg (Int.le_of_lt ht) (show 0≤q.py - b.py by omega)
    have t2:=Int.mul_nonneg s2 (show 0≤b.py - a.py by omega)
    have t3:=Int.mul_nonneg s1 (show 0≤b.py - c.py by omega)
    have e:trn a b q * (c.py - b.py) = - (trn a b q * (b.py - c.py)):=by grind
    have z1:trn b c q * (b.py - a.py)=0:=by omega
    have z2:trn a b q * (b.py - c.py)=0:=by omega
    have y1:b.py=a.py:=by rcases Int.mul_eq_zero.1 z1 with k | k; exact absurd k n2; omega
    have y2:b.py=c.py:=by rcases Int.mul_eq_zero.1 z2 with k | k; exact absurd k n1; omega
    unfold trn at ht
    rw [← y1,← y2,Int.sub_self] at ht
    simp at ht
noncomputable def conP (p:Pt):List (Pt×Pt)→Bool→Int
  | [],odd=>bif odd then 1 else -1
  | e :: r,odd=>bif onB e.1 e.2 p then 0 else conP p r (odd ^^ tog e.1 e.2 p)
noncomputable def parE (p:Pt):List (Pt×Pt)→Bool→Bool
  | [],odd=>odd
  | e :: r,odd=>parE p r (odd ^^ tog e.1 e.2 p)
theorem conP_eq (p:Pt):∀ (es:List (Pt×Pt)) (odd:Bool),conP p es odd=bif es.any (fun e=>onB e.1 e.2 p) then 0 else bif parE p es odd then 1 else -1:=by
  intro es
  induction es with
  | nil=>intro odd; rfl
  | cons e es ih =>
    intro odd
    simp only [conP,List.any_cons,parE]
    cases onB e.1 e.2 p
    · exact ih _
    · rfl
theorem parE_app (p:Pt):∀ (a b:List (Pt×Pt)) (odd:Bool),parE p (a++b) odd=parE p b (parE p a odd):=by
  intro a
  induction a with
  | nil=>intro b odd; rfl
  | cons e a ih=>intro b odd; exact ih b _
theorem parE_flip (p:Pt):∀ (a:List (Pt×Pt)) (o c:Bool),parE p a (o ^^ c)=(parE p a o ^^ c):=by
  intro a
  induction a with
  | nil=>intro o c; rfl
  | cons e a ih =>
    intro o c
    show parE p a ((o ^^ c) ^^ _)=(parE p a (o ^^ _) ^^ c)
    rw [← ih]
    congr 1
    cases o<;>cases c<;>cases tog e.1 e.2 p<;>rfl
theorem conP_turn (p:Pt) (e:Pt×Pt) (r:List (Pt×Pt)) (odd:Bool):conP p (e :: r) odd=conP p (r++[e]) odd:=by
  rw [conP_eq,conP_eq,parE_app]
  have h1:(e :: r).any (fun e=>onB e.1 e.2 p)=(r++[e]).any (fun e=>onB e.1 e.2 p):=by
    rw [List.any_cons,List.any_append,List.any_cons,List.any_nil,Bool.or_false,Bool.or_comm]
  rw [h1]
  show (bif _ then _ else bif parE p r (odd ^^ tog e.1 e.2 p) then _ else _)=(bif _ then _ else bif (parE p r odd ^^ tog e.1 e.2 p) then _ else _)
  rw [parE_flip]
theorem par_none (p:Pt):∀ (es:List (Pt×Pt)) (odd:Bool),(∀ e∈es,tog e.1 e.2 p=false)→parE p es odd=odd:=by
  intro es
  induction es with
  | nil=>intro odd _; rfl
  | cons e es ih =>
    intro odd h
    show parE p es (odd ^^ tog e.1 e.2 p)=odd
    rw [h e (by simp),Bool.xor_false]
    exact ih odd fun x hx=>h x (by simp [hx])
theorem par_one (p : Pt) : ∀ (es : List (Pt × Pt)) (odd : Bool), (es.map (·.1)).Nodup → (∀ e ∈ es, ∀ f ∈ es, tog e.1 e.2 p = true → tog f.1 f.2 p = true → e.1 = f.1) → (∃ e ∈ es, tog e.1 e.2 p = true) → parE p es odd = !odd := by
  intro es
  induction es with
  | nil=>intro odd _ _ h; obtain ⟨e,he,_⟩:=h; cases he
  | cons e es ih =>
    intro odd hn hu hx
    rw [List.map_cons,List.nodup_cons] at hn
    show parE p es (odd ^^ tog e.1 e.2 p) = !odd
    cases ht:tog e.1 e.2 p
    · rw [Bool.xor_false]
      refine ih odd hn.2 (fun a ha b hb=>hu a (by simp [ha]) b (by simp [hb])) ?_
      obtain ⟨f,hf,hft⟩:=hx
      rcases List.mem_cons.1 hf with rfl | hf
      · rw [ht] at hft; cases hft
      · exact ⟨f,hf,hft⟩
    · rw [Bool.xor_true]
      refine par_none p es _ fun f hf => ?_
      cases hft:tog f.1 f.2 p
      · rfl
      · exfalso
        have:=hu e (by simp) f (by simp [hf]) ht hft
        exact hn.1 (List.mem_map.2 ⟨f,hf,this.symm⟩)
theorem pa_spread {y:Int}:∀ {l:List Pt},Pa (fun a b=>a.py≤y→b.py≤y) l→∀ (a:Pt) (l':List Pt),l=a :: l'→a.py≤y→∀ x∈l,x.py≤y:=by
  intro l
  induction l with
  | nil=>intro _ a l' h; cases h
  | cons b l ih =>
    intro hp a l' e ha x hx
    cases e
    rcases List.mem_cons.1 hx with rfl | hx
    · exact ha
    · cases l with
      | nil=>cases hx
      | cons c l=>exact ih hp.2 c l rfl (hp.1 ha) x hx
theorem pa_drop {S:Pt→Pt→Prop}:∀ {l m:List Pt},Pa S (l++m)→Pa S m:=by
  intro l
  induction l with
  | nil=>intro m h; exact h
  | cons a l ih =>
    intro m h
    cases hlm:l++m with
    | nil=>have:m=[]:=(List.append_eq_nil_iff.1 hlm).2; rw [this]; trivial
    | cons b r =>
      rw [List.cons_append,hlm] at h
      exact ih (by rw [hlm]; exact h.2)
theorem pa_all {S S':Pt→Pt→Prop}:∀ {l:List Pt},(∀ e∈pairs l,S' e.1 e.2)→Pa S' l:=by
  intro l
  induction l with
  | nil=>intro _; trivial
  | cons a l ih =>
    intro h
    cases l with
    | nil=>trivial
    | cons b l=>exact ⟨h (a,b) List.mem_cons_self,ih fun e he=>h e (List.mem_cons_of_mem _ he)⟩
theorem hull_in {P h : List Pt} {m q : Pt} (H : HullOf P h) (hm : h.head? = some m) (hpa : Pa (Side P) (h ++ [m])) (h3 : 3 ≤ h.length) (hq : q ∈ P) : 0 ≤ conP q (pairs (h ++ [m])) false := by
  rw [conP_eq]
  cases ho:(pairs (h++[m])).any (fun e=>onB e.1 e.2 q)
  · have hon : ∀ e ∈ pairs (h ++ [m]), onB e.1 e.2 q = false := fun e he => by
      have:=(List.any_eq_false.1 ho) e he
      simpa using this
    have hmh:m∈h:=List.mem_of_mem_head? (by rw [hm]; exact rfl)
    have inh:∀ x∈h++[m],x∈P:=fun x hx=>by
      rcases List.mem_append.1 hx with hx | hx
      · exact H.sub x hx
      · rw [List.mem_singleton.1 hx]; exact H.sub m hmh
    have hT:∀ e∈pairs (h++[m]),(tog e.1 e.2 q=true↔e.1.py≤q.py∧q.py < e.2.py):=fun e he=>tog_side (pairs_pa hpa e he) hq (hon e he)
    rw [par_one q (pairs (h++[m])) false (by rw [pairs_fst]; exact H.nodup) (fun e he f hf t1 t2=>by
      have a1:=(hT e he).1 t1
      have a2:=(hT f hf).1 t2
      exact cross_one (pairs_pa hpa e he) (pairs_pa hpa f hf) (inh _ (pairs_mem e he).1) (inh _ (pairs_mem e he).2) (inh _ (pairs_mem f hf).1) (inh _ (pairs_mem f hf).2) a1.1 a1.2 a2.1 a2.2) ?_]
    · exact Int.zero_le_ofNat 1
    · refine Classical.byContradiction fun hno => ?_
      have hS:Pa (fun a b=>a.py≤q.py→b.py≤q.py) (h++[m]):=pa_all (S:=Side P) fun e he k=>by
        rcases Int.lt_or_le q.py e.2.py with k2 | k2
        · exact absurd ⟨e,he,(hT e he).2 ⟨k,k2⟩⟩ hno
        · exact k2
      obtain ⟨x,hx,hxl⟩:=hull_low H hm hpa h3 hq
      obtain ⟨z,hz,hzl⟩:=hull_high H hm hpa h3 hq hon
      obtain ⟨l1,l2,e⟩:=List.append_of_mem hx
      have hS2:Pa (fun a b=>a.py≤q.py→b.py≤q.py) (x :: (l2++[m])):=by
        rw [e,List.append_assoc] at hS
        exact pa_drop hS
      have hmq:=pa_spread hS2 x _ rfl hxl m (by simp)
      cases h with
      | nil=>cases hx
      | cons a h =>
        simp at hm
        subst hm
        have:=pa_spread hS a _ rfl hmq z (List.mem_append_left _ hz)
        omega
  · exact Int.le_refl _
end Go.Proofs.Ytcabnkclelgoeaa
