/- A plan without faults ends no earlier than the chain; works that are due later cost no more. -/
import Derived.Test.YthdklallcljhlaaVN
namespace Go.Proofs.Ythdklallcljhlaa
set_option linter.unusedSectionVars false
set_option linter.unusedSimpArgs false
set_option linter.unusedVariables false
set_option maxRecDepth 100000
noncomputable def updW (more:Int) (w:Work):Work:=⟨w.wn,w.wh,w.wc,w.ws,w.wa,(bif ilt (IntKind.wrap .i64 (w.wd+(IntKind.wrap .i64 more))) (100000:Int) then (IntKind.wrap .i64 (w.wd+(IntKind.wrap .i64 more))) else (100000:Int)),w.wp⟩
theorem fld (l:List Work) (m:Int) (i:Nat):(List.getD (l.map (updW m)) i d_work).wh=(List.getD l i d_work).wh∧(List.getD (l.map (updW m)) i d_work).wc=(List.getD l i d_work).wc∧(List.getD (l.map (updW m)) i d_work).ws=(List.getD l i d_work).ws∧(List.getD (l.map (updW m)) i d_work).wa=(List.getD l i d_work).wa:=by
  by_cases h:i < l.length
  · rw [getD_lt (by simpa using h), getD_lt h, List.getElem_map]
    exact ⟨rfl,rfl,rfl,rfl⟩
  · rw [List.getD_eq_getElem?_getD, List.getD_eq_getElem?_getD, List.getElem?_eq_none (by simp; omega), List.getElem?_eq_none (by omega)]
    exact ⟨rfl,rfl,rfl,rfl⟩
theorem meet_map (l:List Work) (p:List Slot) (m:Int) (i k:Nat):meetB (l.map (updW m)) p i k=meetB l p i k:=by
  unfold meetB
  rw [(fld l m i).1,(fld l m k).1]
theorem fault_map (l:List Work) (p:List Slot) (m:Int) (i:Nat):faultN (l.map (updW m)) p i=faultN l p i:=by
  have h1:ordB (l.map (updW m)) p i=ordB l p i:=funext fun a=>by unfold ordB; rw [(fld l m _).1]
  have h2:crewB (l.map (updW m)) p i=crewB l p i:=funext fun k=>by unfold crewB; rw [meet_map]
  have h3:streB (l.map (updW m)) p i=streB l p i:=funext fun k=>by unfold streB; rw [meet_map,(fld l m i).2.2.1,(fld l m k).2.2.1]
  unfold faultN
  rw [h1,h2,h3,(fld l m i).2.1,(fld l m i).2.2.2,List.length_map]
theorem okV_map {l:List Work} (m:Int) (h:okV l=true):okV (l.map (updW m))=true:=by
  obtain ⟨h1,h2⟩:=okV_len h
  simp only [okV,Bool.and_eq_true]
  refine ⟨nleT (by rw [List.length_map]; exact h1),List.all_eq_true.2 fun w hw => ?_⟩
  obtain ⟨v,hv,rfl⟩:=List.mem_map.1 hw
  simp only [Bool.and_eq_true]
  exact ⟨nleT (h2 v hv).1,nleT (h2 v hv).2⟩
theorem due_up {w d m:Int} (h0:0≤m) (h9:m≤65535) (hd0:0≤d) (hd9:d≤100000):IntKind.wrap .i64 (d+(IntKind.wrap .i64 m))=d+m:=by
  rw [wrapI (x:=m) (by omega) (by omega),wrapI (by omega) (by omega)]
theorem wk_due {n crews:Int} {dup:Bool} {w:Work} (h:wk n crews dup w=true):(0≤w.wd∧w.wd≤100000)∧(0≤w.wp∧w.wp≤1000000):=by
  simp only [wk,Bool.and_eq_true] at h
  obtain ⟨_,_,_,_,_,_,_,⟨a,b⟩,c,d⟩:=h
  exact ⟨⟨ileI a,ileI b⟩,ileI c,ileI d⟩
theorem goodW_due {n crews:Int}:∀ {l seen:List Work},goodW n crews seen l=true→∀ w∈l,(0≤w.wd∧w.wd≤100000)∧(0≤w.wp∧w.wp≤1000000):=by
  intro l
  induction l with
  | nil=>intro seen _ w hw; cases hw
  | cons x l ih =>
    intro seen h w hw
    simp only [goodW,Bool.and_eq_true] at h
    rcases List.mem_cons.1 hw with rfl | hw
    · exact wk_due h.1
    · exact ih h.2 w hw
theorem upd_due {m:Int} (h0:0≤m) (h9:m≤65535) {w:Work} (hd:0≤w.wd∧w.wd≤100000):w.wd≤(updW m w).wd∧(updW m w).wd≤100000:=by
  show w.wd≤(bif ilt (IntKind.wrap .i64 (w.wd+(IntKind.wrap .i64 m))) (100000:Int) then (IntKind.wrap .i64 (w.wd+(IntKind.wrap .i64 m))) else (100000:Int))∧(bif ilt (IntKind.wrap .i64 (w.wd+(IntKind.wrap .i64 m))) (100000:Int) then (IntKind.wrap .i64 (w.wd+(IntKind.wrap .i64 m))) else (100000:Int))≤100000
  rw [due_up (w:=0) h0 h9 hd.1 hd.2]
  by_cases h:w.wd+m < 100000
  · rw [iltT h,cond_true]; omega
  · rw [iltF h,cond_false]; omega
theorem goodW_map {n crews m : Int} (h0 : 0 ≤ m) (h9 : m ≤ 65535) : ∀ {l seen : List Work}, goodW n crews seen l = true → goodW n crews (seen.map (updW m)) (l.map (updW m)) = true := by
  intro l
  induction l with
  | nil=>intro seen _; rfl
  | cons x l ih =>
    intro seen h
    have hdue:=goodW_due h x (List.mem_cons_self ..)
    simp only [goodW,Bool.and_eq_true] at h
    show (wk n crews (List.any (seen.map (updW m)) (fun y=>y.wn == (updW m x).wn)) (updW m x)&&goodW n crews (seen.map (updW m)++[updW m x]) (l.map (updW m)))=true
    rw [Bool.and_eq_true]
    refine ⟨?_,?_⟩
    · have e : List.any (seen.map (updW m)) (fun y => y.wn == (updW m x).wn) = List.any seen (fun y => y.wn == x.wn) := by
        rw [List.any_map]; rfl
      rw [e]
      have h1:=h.1
      obtain ⟨u1,u2⟩:=upd_due h0 h9 (w:=x) hdue.1
      simp only [wk,Bool.and_eq_true] at h1 ⊢
      obtain ⟨a1,a2,a3,a4,a5,a6,a7,a8,a9⟩:=h1
      exact ⟨a1,a2,a3,a4,a5,a6,a7,⟨ileT (by omega),ileT u2⟩,a9⟩
    · have := ih h.2
      rw [List.map_append] at this
      exact this
theorem topo_map {l:List Work} (m:Int) (h:topoB l=true):topoB (l.map (updW m))=true:=by
  obtain ⟨rk,hrk⟩:=topo_acyc h
  refine topo_T ⟨rk,fun i hi a ha => ?_⟩
  have hi':i < l.length:=by simpa using hi
  rw [List.getElem_map] at ha
  exact hrk i hi' a ha
theorem valid_map {l:List Work} {crews m:Int} (h0:0≤m) (h9:m≤65535) (h:validB l crews=true):validB (l.map (updW m)) crews=true:=by
  have hV:=valid_of h
  have hg:=goodW_map h0 h9 hV.good
  have hl:=hV.len
  simp only [validB,Bool.and_eq_true,Bool.not_eq_true']
  refine ⟨⟨ileT hV.cr.1,ileT hV.cr.2⟩,iltF (by rw [List.length_map]; simp; omega),?_,topo_map m hV.topo⟩
  rw [List.length_map]
  exact hg
theorem check_map {l:List Work} {p:List Slot} {crews m:Int} (h0:0≤m) (h9:m≤65535) (h:checkE l crews p=0):checkE (l.map (updW m)) crews p=0:=by
  obtain ⟨h1,h2,h3⟩:=check_no h
  exact check_T (valid_map h0 h9 h1) (by rw [List.length_map]; exact h2) fun i hi=>by rw [fault_map]; exact h3 i (by simpa using hi)
theorem late_val {w:Work} {e:Int} (hp:0≤w.wp∧w.wp≤1000000) (hd:0≤w.wd∧w.wd≤100000) (he:0≤e∧e≤2000000):∃ x:Int,lateZ w e=w.wp * x∧0≤x∧x≤2000000∧e - w.wd≤x∧(x=0∨x=e - w.wd)∧0≤w.wp * x∧w.wp * x≤2000000000000:=by
  have hw:IntKind.wrap .i64 (e - w.wd)=e - w.wd:=wrapI (by omega) (by omega)
  have key:∀ x:Int,0≤x→x≤2000000→0≤w.wp * x∧w.wp * x≤2000000000000:=fun x h1 h2=>by
    refine ⟨Int.mul_nonneg hp.1 h1,?_⟩
    have:=Int.mul_le_mul hp.2 h2 h1 (by omega:(0:Int)≤1000000)
    omega
  unfold lateZ
  rw [hw]
  by_cases h:0 < e - w.wd
  · rw [iltT h, cond_true]
    obtain ⟨k1,k2⟩:=key (e - w.wd) (by omega) (by omega)
    exact ⟨_,wrapI (by omega) (by omega),by omega,by omega,by omega,.inr rfl,k1,k2⟩
  · rw [iltF h, cond_false]
    obtain ⟨k1,k2⟩:=key 0 (by omega) (by omega)
    exact ⟨_,wrapI (by omega) (by omega),by omega,by omega,by omega,.inl rfl,k1,k2⟩
theorem late_mono {w v:Work} {e:Int} (hp:0≤w.wp∧w.wp≤1000000) (hd:0≤w.wd∧w.wd≤100000) (he:0≤e∧e≤2000000) (hvp:v.wp=w.wp) (hvd:w.wd≤v.wd∧v.wd≤100000):lateZ v e≤lateZ w e∧0≤lateZ v e∧lateZ w e≤2000000000000:=by
  obtain ⟨x,h1,h2,h3,h4,h5,h6,h7⟩:=late_val hp hd he
  obtain ⟨y,g1,g2,g3,g4,g5,g6,g7⟩:=late_val (w:=v) (e:=e) (by rw [hvp]; exact hp) (by omega) he
  rw [h1,g1]
  refine ⟨?_,g6,h7⟩
  rw [hvp]
  exact Int.mul_le_mul_of_nonneg_left (by omega) hp.1
theorem cost_mono {l:List Work} {p:List Slot} {m:Int} (h0:0≤m) (h9:m≤65535) (hl:l.length≤100) (hp:p.length=l.length) (hd:∀ w∈l,(0≤w.wd∧w.wd≤100000)∧(0≤w.wp∧w.wp≤1000000)) (hh:∀ w∈l,1≤w.wh∧w.wh≤1000) (hf:∀ i,i < l.length→NoF l p i) :
    ∀ (n k:Nat) (s s':Int),n+k=l.length→0≤s'→s'≤s→s≤(k:Int) * 2000000000000→costG (l.map (updW m)) p n k s'≤costG l p n k s:=by
  intro n
  induction n with
  | zero=>intro k s s' _ _ h _; exact h
  | succ n ih =>
    intro k s s' hk h1 h2 h3
    have hkl:k < l.length:=by omega
    have hkp:k < p.length:=by omega
    have hN:=hf k hkl
    have hw:=hh _ (List.getElem_mem hkl)
    have he1:endZ l (List.getD p k d_slot)=(List.getD p k d_slot).ss+l[k].wh:=by
      unfold endZ
      rw [hN.sw,toNat_nat,getD_lt hkl]
      exact wrapI (by have:=hN.s0; omega) (by have:=hN.s9; omega)
    have he2:endZ (l.map (updW m)) (List.getD p k d_slot)=(List.getD p k d_slot).ss+l[k].wh:=by
      rw [← he1]
      unfold endZ
      rw [(fld l m _).1]
    obtain ⟨d1,d2⟩:=hd _ (List.getElem_mem hkl)
    have hu:=upd_due h0 h9 d1
    obtain ⟨c1,c2,c3⟩:=late_mono (v:=updW m l[k]) (e:=(List.getD p k d_slot).ss+l[k].wh) d2 d1 (by have:=hN.s0; have:=hN.s9; omega) rfl hu
    simp only [costG]
    rw [he1,he2,getD_lt hkl,getD_lt (show k < (l.map (updW m)).length by simpa using hkl),List.getElem_map]
    rw [wrapI (x:=s+_) (by omega) (by omega),wrapI (x:=s'+_) (by omega) (by omega)]
    exact ih (k+1) _ _ (by omega) (by omega) (by omega) (by omega)
theorem ends_after {l:List Work} {p:List Slot} (hE:EE l) (hf:∀ i,i < l.length→NoF l p i):∀ (d q:Nat),q < l.length→depB l d (q:Int)=true→endE l (q:Int)≤(List.getD p q d_slot).ss+(List.getD l q d_work).wh:=by
  intro d
  induction d with
  | zero=>intro q _ h; cases h
  | succ d ih =>
    intro q hq h
    rw [dep_one,toNat_nat,getD_lt hq] at h
    have hN:=hf q hq
    rw [E_one hE hq,getD_lt hq]
    have:=fold_le (endE l) (m:=(List.getD p q d_slot).ss) l[q].wa 0 hN.s0 fun a ha=>by
      obtain ⟨w,rfl,hw⟩:=(hE.wa q hq).2 a ha
      have h1:=ih w hw (List.all_eq_true.1 h _ ha)
      have h2:=hN.ord _ (by rw [getD_lt hq]; exact ha)
      rw [toNat_nat,getD_lt hw] at h2
      rw [getD_lt hw] at h1
      omega
    omega
noncomputable def lstG (l:List Work) (p:List Slot):Nat→Nat→Int→Int
  | 0,_,m=>m
  | n+1,k,m=>lstG l p n (k+1) (mx m (IntKind.wrap .i64 ((List.getD p k d_slot).ss+(List.getD l k d_work).wh)))
theorem lst_ge (l:List Work) (p:List Slot):∀ (n k:Nat) (m:Int),m≤lstG l p n k m∧∀ j,k≤j→j < k+n→IntKind.wrap .i64 ((List.getD p j d_slot).ss+(List.getD l j d_work).wh)≤lstG l p n k m:=by
  intro n
  induction n with
  | zero=>intro k m; exact ⟨Int.le_refl _,fun j h1 h2=>by omega⟩
  | succ n ih =>
    intro k m
    obtain ⟨h1,h2⟩:=ih (k+1) (mx m (IntKind.wrap .i64 ((List.getD p k d_slot).ss+(List.getD l k d_work).wh)))
    obtain ⟨g1,g2⟩:=mx_ge m (IntKind.wrap .i64 ((List.getD p k d_slot).ss+(List.getD l k d_work).wh))
    refine ⟨Int.le_trans g1 h1,fun j hj1 hj2 => ?_⟩
    by_cases e:j=k
    · subst e; exact Int.le_trans g2 h1
    · exact h2 j (by omega) (by omega)
theorem chain_le {l:List Work} {p:List Slot} (hv:okV l=true) (hl0:0 < l.length) (hc:checkE l 12 p=0):critN l≤lstG l p p.length 0 0:=by
  obtain ⟨h1,h2,h3⟩:=check_no hc
  obtain ⟨hk,hd⟩:=valid_okE hv h1
  have hE:=okE_of hk
  have hf:∀ i,i < l.length→NoF l p i:=fun i hi=>fault_no (h3 i hi)
  obtain ⟨q,hq,g1,g2⟩:=last_spec hl0
  have e:critN l=endE l (q:Int):=by
    unfold critN
    rw [h1,show (Int.ofNat l.length == (0:Int))=false by rw [beq_eq_false_iff_ne]; simp; exact List.length_pos_iff.1 hl0,g1,toNat_nat,ends_get hq]
    rfl
  have h5:=ends_after hE hf l.length q hq (hd q hq)
  have h6:=(lst_ge l p p.length 0 0).2 q (by omega) (by omega)
  have hN:=hf q hq
  have hw:=hE.wh q hq
  rw [getD_lt hq] at h5
  rw [getD_lt hq,wrapI (by have:=hN.s0; omega) (by have:=hN.s9; omega)] at h6
  omega
theorem upd_step (l:List Work) (f:Work→Work) {k:Nat} (hk:k < l.length):List.getD ((l.take k).map f++l.drop k) k d_work=l[k]∧List.set ((l.take k).map f++l.drop k) k (f l[k])=(l.take (k+1)).map f++l.drop (k+1):=by
  have hlen:((l.take k).map f).length=k:=by simp; omega
  refine ⟨?_,?_⟩
  · rw [List.getD_eq_getElem?_getD, List.getElem?_append_right (by omega), hlen, Nat.sub_self, List.getElem?_drop, Nat.add_zero, List.getElem?_eq_getElem hk]
    rfl
  · rw [List.set_append_right _ _ (by omega), hlen, Nat.sub_self, drop_lt hk, take_lt hk, List.map_append, List.append_assoc]
    rfl
end Go.Proofs.Ythdklallcljhlaa
