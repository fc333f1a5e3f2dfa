/- The best plan has no faults and costs no more than any other. -/
import Derived.Test.YthdklallcljhlaaWB
namespace Go.Proofs.Ythdklallcljhlaa
set_option linter.unusedSectionVars false
set_option linter.unusedSimpArgs false
set_option linter.unusedVariables false
set_option maxRecDepth 100000
noncomputable def sumD (l:List Work) (sl:List Slot) (dn:List Bool):Nat→Nat→Int
  | 0,_=>0
  | n+1,k=>(bif List.getD dn k d_bool then lateZ (List.getD l k d_work) (endZ l (List.getD sl k d_slot)) else 0)+sumD l sl dn n (k+1)
structure NFP (l:List Work) (p:List Slot):Prop where
  len:p.length=l.length
  fn:∀ i,i < l.length→faultN l p i=0
structure Dom (l:List Work) (p sl:List Slot) (dn:List Bool):Prop where
  le:∀ k,k < l.length→List.getD dn k d_bool=true→(List.getD sl k d_slot).ss≤(List.getD p k d_slot).ss
  cr:∀ k,k < l.length→List.getD dn k d_bool=true→(List.getD sl k d_slot).sc=(List.getD p k d_slot).sc
  ord:∀ k j,k < l.length→j < l.length→List.getD dn k d_bool=true→List.getD dn j d_bool=false→(List.getD p k d_slot).ss≤(List.getD p j d_slot).ss
def Agree (sl sl':List Slot) (dn:List Bool):Prop:=∀ k,List.getD dn k d_bool=true→List.getD sl' k d_slot=List.getD sl k d_slot
structure LV (l:List Work):Prop where
  ok:okV l=true
  v:validB l 12=true
theorem late_bd {l:List Work} (h:LV l) {k:Nat} (hk:k < l.length) {e:Int} (he:0≤e∧e≤2000000):0≤lateZ (List.getD l k d_work) e∧lateZ (List.getD l k d_work) e≤2000000000000:=by
  obtain ⟨d1,d2⟩:=goodW_due (valid_of h.v).good _ (List.getElem_mem hk)
  rw [getD_lt hk]
  obtain ⟨x,h1,_,_,_,_,h6,h7⟩:=late_val d2 d1 he
  rw [h1]
  exact ⟨h6,h7⟩
theorem GJ_end {l:List Work} {sl:List Slot} {dn:List Bool} {T:Int} (h:LV l) (hJ:GJ l sl dn T) (hT:T≤100000) {k:Nat} (hk:k < l.length) (hd:List.getD dn k d_bool=true):endZ l (List.getD sl k d_slot)=(List.getD sl k d_slot).ss+(List.getD l k d_work).wh∧0≤(List.getD sl k d_slot).ss∧(List.getD sl k d_slot).ss+(List.getD l k d_work).wh≤100000∧1≤(List.getD l k d_work).wh∧(List.getD l k d_work).wh≤1000:=by
  have hK:=hJ k hk hd
  have hw:=goodW_wh (valid_of h.v).good _ (List.getElem_mem hk)
  have h2:=hK.s9
  have h3:=hK.s0
  have e:(List.getD l k d_work).wh=l[k].wh:=by rw [getD_lt hk]
  refine ⟨?_,h3,by omega,by omega,by omega⟩
  unfold endZ
  rw [hK.sw,toNat_nat]
  exact wrapI (by omega) (by omega)
theorem NFP_end {l:List Work} {p:List Slot} (h:LV l) (hp:NFP l p) {k:Nat} (hk:k < l.length):endZ l (List.getD p k d_slot)=(List.getD p k d_slot).ss+(List.getD l k d_work).wh∧0≤(List.getD p k d_slot).ss∧(List.getD p k d_slot).ss≤1000000∧1≤(List.getD l k d_work).wh∧(List.getD l k d_work).wh≤1000:=by
  have hN:=fault_no (hp.fn k hk)
  have hw:=goodW_wh (valid_of h.v).good _ (List.getElem_mem hk)
  have e:(List.getD l k d_work).wh=l[k].wh:=by rw [getD_lt hk]
  have h1:=hN.s0
  have h2:=hN.s9
  refine ⟨?_,h1,h2,by omega,by omega⟩
  unfold endZ
  rw [hN.sw,toNat_nat]
  exact wrapI (by omega) (by omega)
theorem GJ_agree {l:List Work} {sl sl':List Slot} {dn:List Bool} {T:Int} (ha:Agree sl sl' dn) (hJ:GJ l sl dn T):GJ l sl' dn T:=fun k hk hd=>by
  have hK:=hJ k hk hd
  refine ⟨by rw [ha k hd]; exact hK.sw,by rw [ha k hd]; exact hK.cr,by rw [ha k hd]; exact hK.s0,by rw [ha k hd]; exact hK.s9,fun a haa => ?_,fun j hj hdj hc => ?_,fun t ht => ?_⟩
  · obtain ⟨u, h1, h2, h3, h4⟩ := hK.od a haa
    exact ⟨u,h1,h2,h3,by rw [ha u h3,ha k hd]; exact h4⟩
  · exact hK.cf j hj hdj (Conf.congr (p:=sl') (ha k hd).symm (ha j hdj).symm hc)
  · rw [ha k hd] at ht ⊢
    rcases hK.mn t ht with h | ⟨u,h1,h2,h3,h4⟩ | ⟨j,h1,h2,h3,h4⟩
    · exact .inl h
    · exact .inr (.inl ⟨u,h1,h2,h3,by rw [ha u h3]; exact h4⟩)
    · exact .inr (.inr ⟨j,h1,h2,h3,by rw [ha j h3]; exact h4⟩)
theorem Dom_agree {l:List Work} {p sl sl':List Slot} {dn:List Bool} (ha:Agree sl sl' dn) (h:Dom l p sl dn):Dom l p sl' dn :=
  ⟨fun k hk hd=>by rw [ha k hd]; exact h.le k hk hd,fun k hk hd=>by rw [ha k hd]; exact h.cr k hk hd,h.ord⟩
theorem sum_agree {l:List Work} {sl sl':List Slot} {dn:List Bool} (ha:Agree sl sl' dn):∀ n k,sumD l sl' dn n k=sumD l sl dn n k:=by
  intro n
  induction n with
  | zero=>intro k; rfl
  | succ n ih =>
    intro k
    simp only [sumD]
    rw [ih]
    cases hd:List.getD dn k d_bool with
    | false=>rfl
    | true=>rw [ha k hd]
theorem sum_bd {l:List Work} {sl:List Slot} {dn:List Bool} {T:Int} (h:LV l) (hJ:GJ l sl dn T) (hT:T≤100000):∀ n k,n+k=l.length→0≤sumD l sl dn n k∧sumD l sl dn n k≤(n:Int) * 2000000000000:=by
  intro n
  induction n with
  | zero=>intro k _; exact ⟨Int.le_refl _,Int.le_refl _⟩
  | succ n ih =>
    intro k hk
    obtain ⟨h1,h2⟩:=ih (k+1) (by omega)
    simp only [sumD]
    cases hd:List.getD dn k d_bool with
    | false=>rw [cond_false]; omega
    | true =>
      obtain ⟨e1,e2,e3,e4,e5⟩:=GJ_end h hJ hT (by omega) hd
      have hb:=late_bd h (k:=k) (by omega) (e:=endZ l (List.getD sl k d_slot)) (by rw [e1]; omega)
      rw [cond_true]
      omega
theorem sum_set {l : List Work} {sl : List Slot} {dn : List Bool} {q : Nat} {v : Slot} (hqs : q < sl.length) (hqd : q < dn.length) (hd : List.getD dn q d_bool = false) : ∀ n k, (k ≤ q → q < k + n → sumD l (sl.set q v) (dn.set q true) n k = sumD l sl dn n k + lateZ (List.getD l q d_work) (endZ l v)) ∧ ((q < k ∨ k + n ≤ q) → sumD l (sl.set q v) (dn.set q true) n k = sumD l sl dn n k) := by
  intro n
  induction n with
  | zero=>intro k; exact ⟨fun h1 h2=>by omega,fun _=>rfl⟩
  | succ n ih =>
    intro k
    obtain ⟨h1,h2⟩:=ih (k+1)
    simp only [sumD]
    rw [getD_setS _ _ _ _ hqs,getD_setB _ _ _ hqd]
    refine ⟨fun g1 g2 => ?_,fun g => ?_⟩
    · by_cases e : q = k
      · subst e
        rw [if_pos rfl,if_pos rfl,hd,cond_true,cond_false,h2 (.inl (by omega))]
        omega
      · rw [if_neg e, if_neg e, h1 (by omega) (by omega)]
        omega
    · have e : q ≠ k := by omega
      rw [if_neg e,if_neg e,h2 (by omega)]
theorem sum_le {l:List Work} {p sl:List Slot} {dn:List Bool} {T:Int} (h:LV l) (hJ:GJ l sl dn T) (hT:T≤100000) (hp:NFP l p) (hD:Dom l p sl dn):∀ n k,n+k=l.length→sumD l sl dn n k≤sumD l p dn n k:=by
  intro n
  induction n with
  | zero=>intro k _; exact Int.le_refl _
  | succ n ih =>
    intro k hk
    have h1:=ih (k+1) (by omega)
    have hkl:k < l.length:=by omega
    simp only [sumD]
    cases hd:List.getD dn k d_bool with
    | false=>rw [cond_false,cond_false]; omega
    | true =>
      obtain ⟨e1,e2,e3,e4,e5⟩:=GJ_end h hJ hT hkl hd
      obtain ⟨f1,f2,f3,f4,f5⟩:=NFP_end h hp hkl
      obtain ⟨d1,d2⟩:=goodW_due (valid_of h.v).good _ (List.getElem_mem hkl)
      have hle:=hD.le k hkl hd
      have:=(late_e (w:=List.getD l k d_work) (e:=endZ l (List.getD p k d_slot)) (e':=endZ l (List.getD sl k d_slot)) (by rw [getD_lt hkl]; exact d2) (by rw [getD_lt hkl]; exact d1) (by rw [e1]; omega) (by rw [e1,f1]; omega) (by rw [f1]; omega)).1
      rw [cond_true,cond_true]
      omega
theorem cost_sum {l:List Work} {p:List Slot} {dn:List Bool} (h:LV l) (hp:NFP l p) (hall:∀ k,k < l.length→List.getD dn k d_bool=true):∀ n k s,n+k=l.length→0≤s→s≤(k:Int) * 2000000000000→costG l p n k s=s+sumD l p dn n k:=by
  have hl:=(valid_of h.v).len
  intro n
  induction n with
  | zero=>intro k s _ _ _; simp [costG,sumD]
  | succ n ih =>
    intro k s hk h1 h2
    have hkl:k < l.length:=by omega
    obtain ⟨f1,f2,f3,f4,f5⟩:=NFP_end h hp hkl
    have hb:=late_bd h hkl (e:=endZ l (List.getD p k d_slot)) (by rw [f1]; omega)
    simp only [costG,sumD]
    rw [hall k hkl,cond_true,wrapI (by omega) (by omega),ih (k+1) _ (by omega) (by omega) (by omega)]
    omega
def Leaf (l:List Work) (b:List Slot) (v:Int):Prop:=NFP l b∧costZ l b=v
structure Gd (l:List Work) (s:Sr) (d:Nat) (sum:Int):Prop where
  gs:GS l s.sl s.dn
  gj:GJ l s.sl s.dn ((d:Int) * 1000)
  cnt:d+cntF s.dn=l.length
  sum:sum=sumD l s.sl s.dn l.length 0
  lf:s.found=true→Leaf l s.best s.least
structure Res (l:List Work) (s:Sr) (r:Bool×Sr):Prop where
  lf:r.2.found=true→Leaf l r.2.best r.2.least
  mono:s.found=true→r.2.found=true∧r.2.least≤s.least
  keep:r.1=true→r.2.dn=s.dn∧GS l r.2.sl s.dn∧Agree s.sl r.2.sl s.dn
theorem Gd_place {l:List Work} {s:Sr} {d:Nat} {sum:Int} {q:Nat} {c:Int} (h:LV l) (hG:Gd l s d sum) (hq:q < l.length) (hr:rdyB l s.dn (q:Int)=true) (hc:List.any (List.getD l q d_work).wc (eqInt c)=true) :
    Gd l (plcSr l s (q:Int) c) (d+1) (IntKind.wrap .i64 (sum+lateZ (List.getD l (Int.toNat (q:Int)) d_work) (endZ l (List.getD (plcSr l s (q:Int) c).sl (Int.toNat (q:Int)) d_slot)))) ∧
      ∃ v:Int,(plcSr l s (q:Int) c).sl=s.sl.set q ⟨(q:Int),c,v⟩∧∀ t,t < v→Blocked l s.sl s.dn q c t:=by
  have hl:=(valid_of h.v).len
  have hS:=SS_mk h.ok h.v hG.gs hq hr
  have hqs:q < s.sl.length:=by rw [hG.gs.len]; exact hq
  have hqd:q < s.dn.length:=by rw [hG.gs.good.1]; exact hq
  have hd:=(rdy_of hr).1
  have hcs:=cnt_set s.dn q hqd hd
  have hcnt:=hG.cnt
  obtain ⟨v,s1,s2,s3,s4,s5⟩:=start_ok hS hG.gj (by omega) (by omega) hc
  have es:(plcSr l s (q:Int) c).sl=s.sl.set q ⟨(q:Int),c,v⟩:=by
    show List.set s.sl q ⟨(q:Int),c,startN l s.sl s.dn q c⟩=_
    rw [s1]
  have ed:(plcSr l s (q:Int) c).dn=s.dn.set q true:=rfl
  obtain ⟨k1,_⟩:=GS_step hG.gs hq hr c v
  have hJ':=GJ_step hS hG.gj hc s2 s3 (by omega) s4 s5
  refine ⟨⟨by rw [es,ed]; exact k1,by rw [es,ed,show (((d+1:Nat):Int)) * 1000=(d:Int) * 1000+1000 by omega]; exact hJ',by rw [ed]; omega,?_,hG.lf⟩,v,es,s5⟩
  have hget:List.getD (s.sl.set q ⟨(q:Int),c,v⟩) q d_slot=⟨(q:Int),c,v⟩:=by rw [getD_setS _ _ _ _ hqs,if_pos rfl]
  have hb:=sum_bd h hG.gj (by omega) l.length 0 (by omega)
  have hwh:=hS.ff.wh q hq
  have he:endZ l ⟨(q:Int),c,v⟩=v+(List.getD l q d_work).wh:=by
    unfold endZ
    show IntKind.wrap .i64 (v+(List.getD l (Int.toNat (q:Int)) d_work).wh)=_
    rw [toNat_nat]
    exact wrapI (by omega) (by omega)
  have hb2:=late_bd h hq (e:=endZ l ⟨(q:Int),c,v⟩) (by rw [he]; omega)
  rw [es,ed,toNat_nat,hget,(sum_set hqs hqd hd l.length 0).1 (by omega) (by omega),hG.sum]
  exact wrapI (by omega) (by omega)
theorem Dom_place {l:List Work} {p:List Slot} {s:Sr} {q:Nat} {v:Int} (h:LV l) (hp:NFP l p) (hG:GS l s.sl s.dn) (hD:Dom l p s.sl s.dn) (hq:q < l.length) (hr:rdyB l s.dn (q:Int)=true) (hmin:∀ j,j < l.length→List.getD s.dn j d_bool=false→(List.getD p q d_slot).ss≤(List.getD p j d_slot).ss) (hB:∀ t,t < v→Blocked l s.sl s.dn q (List.getD p q d_slot).sc t) :
    Dom l p (s.sl.set q ⟨(q:Int),(List.getD p q d_slot).sc,v⟩) (s.dn.set q true):=by
  have hqs:q < s.sl.length:=by rw [hG.len]; exact hq
  have hqd:q < s.dn.length:=by rw [hG.good.1]; exact hq
  have hd:=(rdy_of hr).1
  obtain ⟨hBa,hCf⟩:=faultN_iff.1 (hp.fn q hq)
  have hv:v≤(List.getD p q d_slot).ss:=by
    by_cases e:v≤(List.getD p q d_slot).ss
    · exact e
    exfalso
    rcases hB _ (by omega:(List.getD p q d_slot).ss < v) with g | ⟨u,g1,g2,g3,g4⟩ | ⟨j,g1,g2,g3,g4,g5,g6⟩
    · have:=hBa.s0; omega
    · have h1 := hBa.ord _ g1
      rw [toNat_nat] at h1
      have h2:=hD.le u g2 g3
      omega
    · have h2 := hD.le j g1 g3
      have h3:=hD.cr j g1 g3
      have h4:=hD.ord j q g1 hq g3 hd
      have hw:=NFP_end h hp hq
      refine hCf j g1 ⟨g2,by omega,by omega,?_⟩
      rw [← h3]
      exact g6
  refine ⟨fun k hk hdk => ?_,fun k hk hdk => ?_,fun k j hk hj hdk hdj => ?_⟩
  · rw [getD_setS _ _ _ _ hqs]
    rw [getD_setB _ _ _ hqd] at hdk
    by_cases e:q=k
    · subst e; rw [if_pos rfl]; exact hv
    · rw [if_neg e] at hdk ⊢; exact hD.le k hk hdk
  · rw [getD_setS _ _ _ _ hqs]
    rw [getD_setB _ _ _ hqd] at hdk
    by_cases e:q=k
    · subst e; rw [if_pos rfl]
    · rw [if_neg e] at hdk ⊢; exact hD.cr k hk hdk
  · rw [getD_setB _ _ _ hqd] at hdk hdj
    have ej:q≠j:=fun e=>by rw [if_pos e] at hdj; cases hdj
    rw [if_neg ej] at hdj
    by_cases e:q=k
    · subst e; exact hmin j hj hdj
    · rw [if_neg e] at hdk; exact hD.ord k j hk hj hdk hdj
theorem Gd_back {l:List Work} {s:Sr} {d:Nat} {sum:Int} {q:Nat} {c:Int} {r:Bool×Sr} (h:LV l) (hG:Gd l s d sum) (hq:q < l.length) (hr:rdyB l s.dn (q:Int)=true) (hR:Res l (plcSr l s (q:Int) c) r) (hb:r.1=true) :
    (clrSr r.2 (q:Int)).dn=s.dn∧GS l (clrSr r.2 (q:Int)).sl s.dn∧Agree s.sl (clrSr r.2 (q:Int)).sl s.dn∧Gd l (clrSr r.2 (q:Int)) d sum:=by
  have hqs:q < s.sl.length:=by rw [hG.gs.len]; exact hq
  have hqd:q < s.dn.length:=by rw [hG.gs.good.1]; exact hq
  have hd:=(rdy_of hr).1
  obtain ⟨k1,k2,k3⟩:=hR.keep hb
  have ed:(plcSr l s (q:Int) c).dn=s.dn.set q true:=rfl
  rw [ed] at k1 k2 k3
  have hback:(clrSr r.2 (q:Int)).dn=s.dn:=by
    show List.set r.2.dn q false=s.dn
    rw [k1]
    exact set_back hqd hd
  have hag:Agree s.sl (clrSr r.2 (q:Int)).sl s.dn:=fun k hk=>by
    have hne:q≠k:=fun e=>by rw [← e,hd] at hk; cases hk
    have h1:=k3 k (by rw [getD_setB _ _ _ hqd,if_neg hne]; exact hk)
    have h2:List.getD (plcSr l s (q:Int) c).sl k d_slot=List.getD s.sl k d_slot:=by
      show List.getD (List.set s.sl q _) k d_slot=_
      rw [getD_setS _ _ _ _ hqs,if_neg hne]
    show List.getD r.2.sl k d_slot=_
    rw [h1,h2]
  have hgs:GS l (clrSr r.2 (q:Int)).sl s.dn:=⟨k2.len,k2.sw,hG.gs.good⟩
  exact ⟨hback,hgs,hag,by rw [hback]; exact hgs,by rw [hback]; exact GJ_agree hag hG.gj,by rw [hback]; exact hG.cnt,by rw [hback,sum_agree hag]; exact hG.sum,hR.lf⟩
theorem Agree.trans {sl sl' sl'':List Slot} {dn:List Bool} (h1:Agree sl sl' dn) (h2:Agree sl' sl'' dn):Agree sl sl'' dn:=fun k hk=>by rw [h2 k hk,h1 k hk]
def Cpl (l:List Work) (p:List Slot) (r:Bool×Sr):Prop:=r.1=true→r.2.found=true∧r.2.least≤costZ l p
theorem crews_res {l : List Work} {rec_ : Int → Sr → Bool × Sr} {sum : Int} {q d : Nat} {dn : List Bool} (h : LV l) (hq : q < l.length) (hr : rdyB l dn (q : Int) = true)
    (hrec:∀ sum' s',s'.dn=dn.set q true→Gd l s' (d+1) sum'→Res l s' (rec_ sum' s')∧∀ p,NFP l p→Dom l p s'.sl s'.dn→Cpl l p (rec_ sum' s')) :
    ∀ (cs : List Int) (s : Sr), (∀ c ∈ cs, List.any (List.getD l q d_work).wc (eqInt c) = true) → s.dn = dn → Gd l s d sum →
      Res l s (crewsS rec_ l sum (q:Int) cs s)∧((crewsS rec_ l sum (q:Int) cs s).1=true→Gd l (crewsS rec_ l sum (q:Int) cs s).2 d sum)∧∀ p,NFP l p→Dom l p s.sl dn→(∀ j,j < l.length→List.getD dn j d_bool=false→(List.getD p q d_slot).ss≤(List.getD p j d_slot).ss)→(List.getD p q d_slot).sc∈cs→Cpl l p (crewsS rec_ l sum (q:Int) cs s):=by
  intro cs
  induction cs with
  | nil =>
    intro s _ hdn hG
    exact ⟨⟨hG.lf,fun hf=>⟨hf,Int.le_refl _⟩,fun _=>⟨rfl,hG.gs,fun _ _=>rfl⟩⟩,fun _=>hG,fun p _ _ _ hm=>by cases hm⟩
  | cons c cs ih =>
    intro s hcs hdn hG
    subst hdn
    obtain ⟨hG1,v,es,hB⟩:=Gd_place h hG hq hr (hcs c (List.mem_cons_self ..))
    simp only [crewsS]
    obtain ⟨hR,hC⟩:=hrec _ (plcSr l s (q:Int) c) rfl hG1
    generalize rec_ (IntKind.wrap .i64 (sum+lateZ (List.getD l (Int.toNat (q:Int)) d_work) (endZ l (List.getD (plcSr l s (q:Int) c).sl (Int.toNat (q:Int)) d_slot)))) (plcSr l s (q:Int) c)=r at hR hC ⊢
    cases hb:r.1 with
    | false =>
      refine ⟨⟨hR.lf,hR.mono,fun hx=>by cases hx⟩,fun hx=>(by cases hx),fun p _ _ _ _ hx=>by cases hx⟩
    | true =>
      rw [Bool.not_true,cond_false]
      obtain ⟨b1,b2,b3,b4⟩:=Gd_back h hG hq hr hR hb
      obtain ⟨a1,a2,a3⟩:=ih (clrSr r.2 (q:Int)) (fun c' hc'=>hcs c' (List.mem_cons_of_mem _ hc')) b1 b4
      refine ⟨⟨a1.lf,fun hf => ?_,fun hx => ?_⟩,a2,fun p hp hD hmin hm hx => ?_⟩
      · obtain ⟨m1, m2⟩ := hR.mono hf
        obtain ⟨m3,m4⟩:=a1.mono m1
        exact ⟨m3,Int.le_trans m4 m2⟩
      · obtain ⟨k1, k2, k3⟩ := a1.keep hx
        rw [b1] at k1 k2 k3
        exact ⟨k1,k2,b3.trans k3⟩
      · rcases List.mem_cons.1 hm with e | hm
        · have hD' : Dom l p (plcSr l s (q : Int) c).sl (plcSr l s (q : Int) c).dn := by
            rw [es]
            subst e
            exact Dom_place h hp hG.gs hD hq hr hmin hB
          obtain ⟨c1,c2⟩:=hC p hp hD' hb
          obtain ⟨m3,m4⟩:=a1.mono c1
          exact ⟨m3,Int.le_trans m4 c2⟩
        · exact a3 p hp (Dom_agree b3 hD) hmin hm hx
theorem works_res {l : List Work} {rec_ : Int → Sr → Bool × Sr} {sum : Int} {d : Nat} {dn : List Bool} (h : LV l)
    (hrec:∀ q sum' s',q < l.length→rdyB l dn (q:Int)=true→s'.dn=dn.set q true→Gd l s' (d+1) sum'→Res l s' (rec_ sum' s')∧∀ p,NFP l p→Dom l p s'.sl s'.dn→Cpl l p (rec_ sum' s')) :
    ∀ (m k : Nat) (s : Sr), k + m = l.length → s.dn = dn → Gd l s d sum →
      Res l s (worksS rec_ l sum m k s)∧∀ p q,NFP l p→Dom l p s.sl dn→k≤q→q < l.length→rdyB l dn (q:Int)=true→(∀ j,j < l.length→List.getD dn j d_bool=false→(List.getD p q d_slot).ss≤(List.getD p j d_slot).ss)→Cpl l p (worksS rec_ l sum m k s):=by
  intro m
  induction m with
  | zero =>
    intro k s hk hdn hG
    exact ⟨⟨hG.lf,fun hf=>⟨hf,Int.le_refl _⟩,fun _=>⟨rfl,hG.gs,fun _ _=>rfl⟩⟩,fun p q _ _ h1 h2=>by omega⟩
  | succ m ih =>
    intro k s hk hdn hG
    have hkl:k < l.length:=by omega
    simp only [worksS]
    rw [hdn]
    cases hr:rdyB l dn (k:Int) with
    | false =>
      rw [cond_false]
      obtain ⟨a1,a2⟩:=ih (k+1) s (by omega) hdn hG
      refine ⟨a1,fun p q hp hD h1 h2 h3 h4=>a2 p q hp hD ?_ h2 h3 h4⟩
      by_cases e:q=k
      · subst e; rw [hr] at h3; cases h3
      · omega
    | true =>
      rw [cond_true]
      have hany:∀ c∈(List.getD l k d_work).wc,List.any (List.getD l k d_work).wc (eqInt c)=true:=fun c hc=>List.any_eq_true.2 ⟨c,hc,by simp [eqInt]⟩
      obtain ⟨a1,a2,a3⟩:=crews_res h hkl hr (fun sum' s'=>hrec k sum' s' hkl hr) (List.getD l k d_work).wc s hany hdn hG
      generalize crewsS rec_ l sum (k:Int) (List.getD l k d_work).wc s=r at a1 a2 a3 ⊢
      cases hb:r.1 with
      | false=>exact ⟨⟨a1.lf,a1.mono,fun hx=>by cases hx⟩,fun p q _ _ _ _ _ _ hx=>by cases hx⟩
      | true =>
        rw [cond_true]
        obtain ⟨k1,k2,k3⟩:=a1.keep hb
        obtain ⟨c1,c2⟩:=ih (k+1) r.2 (by omega) (by rw [k1,hdn]) (a2 hb)
        rw [hdn] at k3
        refine ⟨⟨c1.lf,fun hf => ?_,fun hx => ?_⟩,fun p q hp hD h1 h2 h3 h4 => ?_⟩
        · obtain ⟨m1, m2⟩ := a1.mono hf
          obtain ⟨m3,m4⟩:=c1.mono m1
          exact ⟨m3,Int.le_trans m4 m2⟩
        · obtain ⟨g1, g2, g3⟩ := c1.keep hx
          rw [k1] at g1 g2 g3
          exact ⟨g1,g2,by rw [hdn] at g3 ⊢; exact k3.trans g3⟩
        · by_cases e : q = k
          · subst e
            intro hx
            have hsc:(List.getD p q d_slot).sc∈(List.getD l q d_work).wc:=by
              have hcr:=(faultN_iff.1 (hp.fn q h2)).1.cr
              obtain ⟨a,ha1,ha2⟩:=List.any_eq_true.1 hcr
              have:a=(List.getD p q d_slot).sc:=by
                simp only [eqInt,beq_iff_eq] at ha2
                first | exact ha2 | exact ha2.symm
              rw [← this]; exact ha1
            obtain ⟨m1,m2⟩:=a3 p hp hD h4 hsc hb
            obtain ⟨m3,m4⟩:=c1.mono m1
            exact ⟨m3,Int.le_trans m4 m2⟩
          · exact c2 p q hp (Dom_agree k3 hD) (by omega) h2 h3 h4
theorem min_idx {l : List Work} (p : List Slot) (dn : List Bool) (hdl : dn.length = l.length) (hp : 0 < cntF dn) : ∃ q, q < l.length ∧ List.getD dn q d_bool = false ∧ ∀ j, j < l.length → List.getD dn j d_bool = false → (List.getD p q d_slot).ss ≤ (List.getD p j d_slot).ss := by
  obtain ⟨i,hi,hd⟩:=cnt_pos dn hp
  have key:∀ n,∃ q,q < l.length∧List.getD dn q d_bool=false∧∀ j,j < n→j < l.length→List.getD dn j d_bool=false→(List.getD p q d_slot).ss≤(List.getD p j d_slot).ss:=by
    intro n
    induction n with
    | zero=>exact ⟨i,by omega,hd,fun j hj=>by omega⟩
    | succ n ih =>
      obtain ⟨q,h1,h2,h3⟩:=ih
      by_cases e:n < l.length∧List.getD dn n d_bool=false∧(List.getD p n d_slot).ss < (List.getD p q d_slot).ss
      · obtain ⟨e1, e2, e3⟩ := e
        refine ⟨n,e1,e2,fun j hj hjl hdj => ?_⟩
        by_cases ej:j=n
        · subst ej; exact Int.le_refl _
        · have:=h3 j (by omega) hjl hdj; omega
      · refine ⟨q, h1, h2, fun j hj hjl hdj => ?_⟩
        by_cases ej:j=n
        · subst ej
          by_cases e2:(List.getD p q d_slot).ss≤(List.getD p j d_slot).ss
          · exact e2
          · exact absurd ⟨hjl,hdj,by omega⟩ e
        · exact h3 j (by omega) hjl hdj
  obtain ⟨q,h1,h2,h3⟩:=key l.length
  exact ⟨q,h1,h2,fun j hj hdj=>h3 j hj hj hdj⟩
theorem leaf_gd {l:List Work} {s:Sr} {d:Nat} {sum:Int} (h:LV l) (hG:Gd l s d sum):Gd l (leafS l (d:Int) sum s) d sum∧(s.found=true→(leafS l (d:Int) sum s).found=true∧(leafS l (d:Int) sum s).least≤s.least)∧(d=l.length→(leafS l (d:Int) sum s).found=true∧(leafS l (d:Int) sum s).least≤sum):=by
  have hl:=(valid_of h.v).len
  have hcnt:=hG.cnt
  unfold leafS
  by_cases hd:d=l.length
  · have hall : ∀ k, k < l.length → List.getD s.dn k d_bool = true := fun k hk => cnt_zero s.dn (by omega) k (by rw [hG.gs.good.1]; exact hk)
    have e1:((d:Int) == Int.ofNat l.length)=true:=by rw [hd]; exact beq_self_eq_true _
    have hN:NFP l s.sl:=⟨hG.gs.len,fun i hi=>by
      have hK:=hG.gj i hi (hall i hi)
      have h9:=hK.s9
      have hw:=(goodW_wh (valid_of h.v).good _ (List.getElem_mem hi)).1
      refine faultN_iff.2 ⟨⟨hK.sw,hK.cr,hK.s0,by rw [getD_lt hi] at h9; omega,fun a ha => ?_⟩,fun k hk=>hK.cf k hk (hall k hk)⟩
      obtain ⟨u,rfl,_,_,hle⟩:=hK.od a ha
      rw [toNat_nat]
      omega⟩
    have hcost:costZ l s.sl=sum:=by
      unfold costZ
      rw [hG.gs.len,cost_sum h hN hall l.length 0 0 (by omega) (by omega) (by omega),Int.zero_add]
      exact hG.sum.symm
    have hbest:Gd l (⟨s.met,sum,true,s.sl,s.sl,s.dn⟩:Sr) d sum:=⟨hG.gs,hG.gj,hG.cnt,hG.sum,fun _=>⟨hN,hcost⟩⟩
    rw [e1,Bool.true_and]
    cases hf:s.found with
    | false=>exact ⟨hbest,(fun hx=>by cases hx),fun _=>⟨rfl,Int.le_refl _⟩⟩
    | true =>
      rw [Bool.not_true,Bool.false_or]
      cases hlt:ilt sum s.least with
      | true=>exact ⟨hbest,fun _=>⟨rfl,by have:=iltI hlt; show sum≤s.least; omega⟩,fun _=>⟨rfl,Int.le_refl _⟩⟩
      | false=>exact ⟨hG,fun _=>⟨hf,Int.le_refl _⟩,fun _=>⟨hf,by have:=iltN hlt; show s.least≤sum; omega⟩⟩
  · have e1 : ((d : Int) == Int.ofNat l.length) = false := beq_eq_false_iff_ne.2 fun e => hd (Int.ofNat.inj e)
    rw [e1,Bool.false_and]
    exact ⟨hG,fun hf=>⟨hf,Int.le_refl _⟩,fun hx=>absurd hx hd⟩
theorem srch_res {l : List Work} {most : Int} (h : LV l) : ∀ (n d : Nat) (sum : Int) (s : Sr), Gd l s d sum → cntF s.dn < n → Res l s (srch l most n (d : Int) sum s) ∧ ∀ p, NFP l p → Dom l p s.sl s.dn → Cpl l p (srch l most n (d : Int) sum s) := by
  have hl:=(valid_of h.v).len
  intro n
  induction n with
  | zero=>intro d sum s _ hc; omega
  | succ n ih =>
    intro d sum s hG hc
    have hcnt:=hG.cnt
    simp only [srch]
    cases ilt most (IntKind.wrap .i64 (s.met+1)) with
    | true=>exact ⟨⟨hG.lf,fun hf=>⟨hf,Int.le_refl _⟩,fun hx=>by cases hx⟩,fun p _ _ hx=>by cases hx⟩
    | false =>
      rw [cond_false]
      have hG0:Gd l (⟨IntKind.wrap .i64 (s.met+1),s.least,s.found,s.best,s.sl,s.dn⟩:Sr) d sum:=⟨hG.gs,hG.gj,hG.cnt,hG.sum,hG.lf⟩
      obtain ⟨g1,g2,g3⟩:=leaf_gd h hG0
      obtain ⟨e1,e2,_⟩:=leaf_dn l (d:Int) sum ⟨IntKind.wrap .i64 (s.met+1),s.least,s.found,s.best,s.sl,s.dn⟩
      have hw1:IntKind.wrap .i64 ((d:Int)+1)=((d+1:Nat):Int):=wrapS d (by omega)
      obtain ⟨a1,a2⟩:=works_res (rec_:=fun sum' s'=>srch l most n (IntKind.wrap .i64 ((d:Int)+1)) sum' s') (sum:=sum) (d:=d) (dn:=s.dn) h (fun q sum' s' hq hr hd hg'=>by
        have hcs:=cnt_set s.dn q (by rw [hG.gs.good.1]; exact hq) (rdy_of hr).1
        show Res l s' (srch l most n (IntKind.wrap .i64 ((d:Int)+1)) sum' s')∧_
        rw [hw1]
        exact ih (d+1) sum' s' hg' (by rw [hd]; omega)) l.length 0 (leafS l (d:Int) sum ⟨IntKind.wrap .i64 (s.met+1),s.least,s.found,s.best,s.sl,s.dn⟩) (by omega) e1 g1
      generalize worksS (fun sum' s'=>srch l most n (IntKind.wrap .i64 ((d:Int)+1)) sum' s') l sum l.length 0 (leafS l (d:Int) sum ⟨IntKind.wrap .i64 (s.met+1),s.least,s.found,s.best,s.sl,s.dn⟩)=r at a1 a2 ⊢
      refine ⟨⟨a1.lf,fun hf => ?_,fun hx => ?_⟩,fun p hp hD => ?_⟩
      · obtain ⟨m1, m2⟩ := g2 hf
        obtain ⟨m3,m4⟩:=a1.mono m1
        exact ⟨m3,Int.le_trans m4 m2⟩
      · obtain ⟨k1, k2, k3⟩ := a1.keep hx
        rw [e1] at k1 k2 k3
        rw [e2] at k3
        exact ⟨k1,k2,k3⟩
      · by_cases hz : cntF s.dn = 0
        · intro hx
          obtain ⟨m1,m2⟩:=g3 (by omega)
          obtain ⟨m3,m4⟩:=a1.mono m1
          have hall:∀ k,k < l.length→List.getD s.dn k d_bool=true:=fun k hk=>cnt_zero s.dn hz k (by rw [hG.gs.good.1]; exact hk)
          have h5:=sum_le h hG.gj (by omega) hp hD l.length 0 (by omega)
          have h6:costZ l p=sumD l p s.dn l.length 0:=by
            unfold costZ
            rw [hp.len,cost_sum h hp hall l.length 0 0 (by omega) (by omega) (by omega),Int.zero_add]
          have h7:=hG.sum
          exact ⟨m3,by omega⟩
        · obtain ⟨q, hq, hdq, hmin⟩ := min_idx (l := l) p s.dn hG.gs.good.1 (by omega)
          have hr:rdyB l s.dn (q:Int)=true:=by
            simp only [rdyB,Bool.and_eq_true,Bool.not_eq_true',toNat_nat]
            refine ⟨hdq,List.any_eq_false.2 fun a ha => ?_⟩
            have hO:=good_okO h.ok (valid_of h.v).good
            have hb:=((okO_len hO).2 _ (List.getElem_mem hq)).2 a (by rw [getD_lt hq] at ha; exact ha)
            simp only [inb,Bool.and_eq_true] at hb
            obtain ⟨u,rfl⟩:=Int.eq_ofNat_of_zero_le (ileI hb.1)
            have hul:u < l.length:=by have:=iltI hb.2; simp at this; omega
            have hord:=(faultN_iff.1 (hp.fn q hq)).1.ord _ ha
            rw [toNat_nat] at hord
            have hwu:=NFP_end h hp hul
            have hdu:List.getD s.dn u d_bool=true:=by
              cases hx:List.getD s.dn u d_bool with
              | true=>rfl
              | false=>have:=hmin u hul hx; omega
            have:undone s.dn (u:Int)=false:=by unfold undone; rw [toNat_nat,hdu]; rfl
            rw [this]
            simp
          exact a2 p q hp (by rw [e2]; exact hD) (by omega) hq hr hmin
theorem best_spec {l:List Work} {most:Int} (h:LV l) (hb:(bestR l most).1=true):(bestR l most).2.found=true∧Leaf l (bestR l most).2.best (bestR l most).2.least∧∀ p,NFP l p→(bestR l most).2.least≤costZ l p:=by
  have hl:=(valid_of h.v).len
  have hno:∀ k,k < l.length→List.getD (List.replicate l.length d_bool) k d_bool=true→False:=fun k hk hd=>by
    rw [getD_lt (by simpa using hk),List.getElem_replicate] at hd
    cases hd
  have hs0:∀ n k,n+k=l.length→sumD l (List.replicate l.length d_slot) (List.replicate l.length d_bool) n k=0:=by
    intro n
    induction n with
    | zero=>intro k _; rfl
    | succ n ih =>
      intro k hk
      simp only [sumD]
      rw [ih (k+1) (by omega)]
      cases hd:List.getD (List.replicate l.length d_bool) k d_bool with
      | false=>rfl
      | true=>exact (hno k (by omega) hd).elim
  have hG:Gd l (⟨0,0,false,[],List.replicate l.length d_slot,List.replicate l.length d_bool⟩:Sr) 0 0:=⟨GS_new l,fun k hk hd=>(hno k hk hd).elim,by rw [cnt_rep]; omega,(hs0 l.length 0 (by omega)).symm,fun hx=>by cases hx⟩
  obtain ⟨a1,a2⟩:=srch_res (most:=most) h 200 0 0 _ hG (by show cntF (List.replicate l.length d_bool) < 200; rw [cnt_rep]; omega)
  have e:srch l most 200 ((0:Nat):Int) 0 (⟨0,0,false,[],List.replicate l.length d_slot,List.replicate l.length d_bool⟩:Sr)=bestR l most:=rfl
  rw [e] at a1 a2
  have hC:∀ p,NFP l p→(bestR l most).2.found=true∧(bestR l most).2.least≤costZ l p:=fun p hp=>a2 p hp ⟨fun k hk hd=>(hno k hk hd).elim,fun k hk hd=>(hno k hk hd).elim,fun k j hk _ hd _=>(hno k hk hd).elim⟩ hb
  have hgr:=greedy_GP h.ok h.v
  have hf:=(hC _ ⟨hgr.len,hgr.fn⟩).1
  exact ⟨hf,a1.lf hf,fun p hp=>(hC p hp).2⟩
end Go.Proofs.Ythdklallcljhlaa
