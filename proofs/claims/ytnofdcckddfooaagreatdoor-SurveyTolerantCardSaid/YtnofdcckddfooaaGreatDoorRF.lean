/- Borders of a valid surface: the code's walk ends, and goes along just the sides that no other face has. -/
import Derived.Test.YtnofdcckddfooaaGreatDoorRC
import Derived.Test.YtnofdcckddfooaaGreatDoorVC
namespace Go.Proofs.YtnofdcckddfooaaGreatDoor
set_option linter.unusedSectionVars false
set_option linter.unusedSimpArgs false
set_option linter.unusedVariables false
set_option maxRecDepth 100000
noncomputable def sdN (m:Mesh) (h:Nat):Pr:=sideF (List.getD m.mf (h / 3) d_face) ((h%3:Nat):Int)
def rev (p:Pr):Pr:=⟨p.p1,p.p0⟩
def nxt (h:Nat):Nat:=3 * (h / 3)+(h%3+1)%3
theorem rev_rev (p:Pr):rev (rev p)=p:=rfl
theorem nxt_lt {h N:Nat} (hh:h < 3 * N):nxt h < 3 * N:=by unfold nxt; omega
theorem nxt_inj {h k:Nat} (e:nxt h=nxt k):h=k:=by unfold nxt at e; omega
theorem nxt_div (h:Nat):nxt h / 3=h / 3:=by unfold nxt; omega
theorem nxt_mod (h:Nat):nxt h%3=(h%3+1)%3:=by unfold nxt; omega
theorem mod3 (h:Nat):h%3=0∨h%3=1∨h%3=2:=by omega
theorem nxt_start (m:Mesh) (h:Nat):(sdN m (nxt h)).p0=(sdN m h).p1:=by
  unfold sdN
  rw [nxt_div,nxt_mod]
  rcases mod3 h with e | e | e<;>rw [e]<;>rfl
def Uniq (m:Mesh):Prop:=∀ h k,h < 3 * m.mf.length→k < 3 * m.mf.length→sdN m h=sdN m k→h=k
theorem sdN_at (m:Mesh) {i:Nat} (hi:i < m.mf.length) (k:Nat) (hk:k < 3):sdN m (3 * i+k)=sideF m.mf[i] (k:Int):=by
  unfold sdN
  rw [show (3 * i+k) / 3=i by omega,show (3 * i+k)%3=k by omega,getD_lt hi]
theorem has_iff (p:Pr) (g:Face):hasS p g=true↔∃ k:Nat,k < 3∧sideF g (k:Int)=p:=by
  unfold hasS
  simp only [Bool.or_eq_true,kq_pr_iff]
  constructor
  · rintro (h | h | h)
    · exact ⟨0,by omega,h.symm⟩
    · exact ⟨1,by omega,h.symm⟩
    · exact ⟨2,by omega,h.symm⟩
  · rintro ⟨k, hk, h⟩
    match k,hk,h with
    | 0,_,h=>exact .inl h.symm
    | 1,_,h=>exact .inr (.inl h.symm)
    | 2,_,h=>exact .inr (.inr h.symm)
theorem any_has (m:Mesh) (p:Pr):m.mf.any (hasS p)=true↔∃ h,h < 3 * m.mf.length∧sdN m h=p:=by
  rw [List.any_eq_true]
  constructor
  · rintro ⟨g, hg, hp⟩
    obtain ⟨i,hi,rfl⟩:=List.getElem_of_mem hg
    obtain ⟨k,hk,e⟩:=(has_iff p _).1 hp
    exact ⟨3 * i+k,by omega,(sdN_at m hi k hk).trans e⟩
  · rintro ⟨h, hh, e⟩
    have hi:h / 3 < m.mf.length:=by omega
    refine ⟨m.mf[h / 3],List.getElem_mem hi,(has_iff p _).2 ⟨h%3,by omega,?_⟩⟩
    rw [← e]
    unfold sdN
    rw [getD_lt hi]
noncomputable def opnN (m:Mesh) (h:Nat):Bool:=opn m (sdN m h)
theorem closed_ex {m:Mesh} {h:Nat} (hc:opnN m h=false):∃ k,k < 3 * m.mf.length∧sdN m k=rev (sdN m h):=by
  unfold opnN opn at hc
  rw [Bool.not_eq_false'] at hc
  exact (any_has m _).1 hc
theorem ex_closed {m:Mesh} {h k:Nat} (hk:k < 3 * m.mf.length) (e:sdN m k=rev (sdN m h)):opnN m h=false:=by
  unfold opnN opn
  rw [Bool.not_eq_false']
  exact (any_has m _).2 ⟨k,hk,e⟩
noncomputable def opp (m:Mesh) (h:Nat):Nat:=@dite _ (∃ k,k < 3 * m.mf.length∧sdN m k=rev (sdN m h)) (Classical.propDecidable _) (fun hx=>Classical.choose hx) (fun _=>h)
theorem opp_spec {m:Mesh} {h:Nat} (hc:opnN m h=false):opp m h < 3 * m.mf.length∧sdN m (opp m h)=rev (sdN m h):=by
  unfold opp
  rw [dif_pos (closed_ex hc)]
  exact Classical.choose_spec (closed_ex hc)
noncomputable def phi (m:Mesh) (h:Nat):Nat:=bif opnN m h then h else nxt (opp m h)
noncomputable def itN (m:Mesh):Nat→Nat→Nat
  | 0,h=>h
  | k+1,h=>itN m k (phi m h)
theorem itN_succ (m:Mesh):∀ (k h:Nat),itN m (k+1) h=phi m (itN m k h):=by
  intro k
  induction k with
  | zero=>intro h; rfl
  | succ k ih=>intro h; exact ih (phi m h)
theorem phi_lt {m:Mesh} {h:Nat} (hh:h < 3 * m.mf.length):phi m h < 3 * m.mf.length:=by
  unfold phi
  cases hc:opnN m h with
  | true=>exact hh
  | false=>exact nxt_lt (opp_spec hc).1
theorem itN_lt {m:Mesh}:∀ (k h:Nat),h < 3 * m.mf.length→itN m k h < 3 * m.mf.length:=by
  intro k
  induction k with
  | zero=>intro h hh; exact hh
  | succ k ih=>intro h hh; exact ih _ (phi_lt hh)
theorem nodup_bound:∀ (N:Nat) (l:List Nat),l.Nodup→(∀ x∈l,x < N)→l.length≤N:=by
  intro N
  induction N with
  | zero =>
    intro l _ h
    match l with
    | []=>exact Nat.le_refl _
    | x :: l=>exact absurd (h x (List.mem_cons_self ..)) (Nat.not_lt_zero _)
  | succ N ih =>
    intro l hn h
    have h1:=ih (l.erase N) (hn.erase N) fun x hx=>by
      have:=(hn.mem_erase_iff).1 hx
      have:=h x this.2
      omega
    have h2:l.length≤(l.erase N).length+1:=by
      rw [List.length_erase]
      split<;>omega
    omega
theorem ends {m : Mesh} (hU : Uniq m) {e : Nat} (he : e < 3 * m.mf.length) (ho : opnN m e = true) : ∃ k, k ≤ 3 * m.mf.length ∧ opnN m (itN m k (nxt e)) = true := by
  refine Classical.byContradiction fun hne => ?_
  have hc:∀ k,k≤3 * m.mf.length→opnN m (itN m k (nxt e))=false:=fun k hk=>by
    cases h:opnN m (itN m k (nxt e)) with
    | false=>rfl
    | true=>exact absurd ⟨k,hk,h⟩ hne
  have hs:∀ k,k≤3 * m.mf.length→itN m (k+1) (nxt e)=nxt (opp m (itN m k (nxt e))):=fun k hk=>by
    rw [itN_succ]
    unfold phi
    rw [hc k hk]
    rfl
  have hinj:∀ i j,i < j→j≤3 * m.mf.length→itN m i (nxt e)≠itN m j (nxt e):=by
    intro i
    induction i with
    | zero =>
      intro j hj hj2 heq
      obtain ⟨j,rfl⟩:∃ q,j=q+1:=⟨j - 1,by omega⟩
      rw [hs j (by omega)] at heq
      have h1:e=opp m (itN m j (nxt e)):=nxt_inj heq
      have h2:=(opp_spec (hc j (by omega))).2
      rw [← h1] at h2
      have h3:sdN m (itN m j (nxt e))=rev (sdN m e):=by rw [h2,rev_rev]
      rw [ex_closed (itN_lt j _ (nxt_lt he)) h3] at ho
      cases ho
    | succ i ih =>
      intro j hj hj2 heq
      obtain ⟨j,rfl⟩:∃ q,j=q+1:=⟨j - 1,by omega⟩
      rw [hs j (by omega),hs i (by omega)] at heq
      have h1:=nxt_inj heq
      have h2:=(opp_spec (hc j (by omega))).2
      have h3:=(opp_spec (hc i (by omega))).2
      rw [← h1,h3] at h2
      have h4:sdN m (itN m i (nxt e))=sdN m (itN m j (nxt e)):=by
        have:=congrArg rev h2
        rw [rev_rev,rev_rev] at this
        exact this
      exact ih j (by omega) (by omega) (hU _ _ (itN_lt i _ (nxt_lt he)) (itN_lt j _ (nxt_lt he)) h4)
  have hn:((List.range (3 * m.mf.length+1)).map fun k=>itN m k (nxt e)).Nodup:=by
    unfold List.Nodup
    rw [List.pairwise_map]
    refine List.Pairwise.imp_of_mem (fun {a b} ha hb hab => ?_) List.pairwise_lt_range
    have:=List.mem_range.1 hb
    exact hinj a b hab (by omega)
  have:=nodup_bound (3 * m.mf.length) _ hn fun x hx=>by
    obtain ⟨k,_,rfl⟩:=List.mem_map.1 hx
    exact itN_lt k _ (nxt_lt he)
  simp only [List.length_map,List.length_range] at this
  omega
theorem cleanR_apart (m : Mesh) : ∀ (r l : List Face), cleanR m l r = true → (∀ f ∈ r, goodC m f = true) ∧ (∀ g ∈ l, ∀ f ∈ r, sameS f g = false) ∧ r.Pairwise (fun g f => sameS f g = false) := by
  intro r
  induction r with
  | nil=>intro l _; exact ⟨fun f hf=>(by cases hf),fun g _ f hf=>(by cases hf),.nil⟩
  | cons f r ih =>
    intro l h
    simp only [cleanR,Bool.and_eq_true,Bool.not_eq_true'] at h
    obtain ⟨h1,h2,h3⟩:=ih (l++[f]) h.2.2.2.2
    refine ⟨fun g hg => ?_,fun g hg k hk => ?_,?_⟩
    · rcases List.mem_cons.1 hg with rfl | hg
      · exact h.1
      · exact h1 g hg
    · rcases List.mem_cons.1 hk with rfl | hk
      · have := List.any_eq_false.1 h.2.2.1 g hg
        simpa using this
      · exact h2 g (List.mem_append_left _ hg) k hk
    · rw [List.pairwise_cons]
      exact ⟨fun k hk=>h2 f (List.mem_append_right _ (List.mem_singleton.2 rfl)) k hk,h3⟩
theorem same_iff (f g : Face) : sameS f g = false ↔ ∀ i k : Nat, i < 3 → k < 3 → sideF f (i : Int) ≠ sideF g (k : Int) := by
  constructor
  · intro h i k hi hk e
    have:sameS f g=true:=by
      rw [same_has]
      have hh:hasS (sideF f (i:Int)) g=true:=(has_iff _ _).2 ⟨k,hk,e.symm⟩
      match i,hi,hh with
      | 0,_,hh=>rw [show hasS (sideF f 0) g=true from hh]; rfl
      | 1,_,hh=>rw [show hasS (sideF f 1) g=true from hh]; simp
      | 2,_,hh=>rw [show hasS (sideF f 2) g=true from hh]; simp
    rw [this] at h
    cases h
  · intro h
    rw [same_has]
    have hh:∀ i:Nat,i < 3→hasS (sideF f (i:Int)) g=false:=fun i hi=>by
      cases hx:hasS (sideF f (i:Int)) g with
      | false=>rfl
      | true =>
        obtain ⟨k,hk,e⟩:=(has_iff _ _).1 hx
        exact absurd e.symm (h i k hi hk)
    rw [show hasS (sideF f 0) g=false from hh 0 (by omega),show hasS (sideF f 1) g=false from hh 1 (by omega),show hasS (sideF f 2) g=false from hh 2 (by omega)]
    rfl
theorem face_apart {m:Mesh} {f:Face} (h:goodC m f=true):∀ i k:Nat,i < 3→k < 3→sideF f (i:Int)=sideF f (k:Int)→i=k:=by
  have key:∀ {a b:Int},gC m a b=true→a≠b:=fun {a b} h=>by
    simp only [gC,Bool.and_eq_true,Bool.not_eq_true'] at h
    simpa using h.2.2.1
  simp only [goodC,Bool.and_eq_true] at h
  have h1:=key h.1; have h2:=key h.2.1; have h3:=key h.2.2.1
  intro i k hi hk e
  have e0:=congrArg Pr.p0 e
  match i,hi,k,hk,e0 with
  | 0,_,0,_,_=>rfl
  | 1,_,1,_,_=>rfl
  | 2,_,2,_,_=>rfl
  | 0,_,1,_,e0=>exact absurd e0 h1
  | 0,_,2,_,e0=>exact absurd e0.symm h3
  | 1,_,0,_,e0=>exact absurd e0.symm h1
  | 1,_,2,_,e0=>exact absurd e0 h2
  | 2,_,0,_,e0=>exact absurd e0 h3
  | 2,_,1,_,e0=>exact absurd e0.symm h2
theorem valid_uniq {m:Mesh} (hv:validM m=true):Uniq m:=by
  simp only [validM,Bool.and_eq_true] at hv
  have h2:=hv.2
  rw [← clean_D] at h2
  simp only [cleanD,Bool.and_eq_true] at h2
  obtain ⟨g1,_,g3⟩:=cleanR_apart m _ _ h2.2
  intro h k hh hk e
  have hi:h / 3 < m.mf.length:=by omega
  have hj:k / 3 < m.mf.length:=by omega
  have e':sideF m.mf[h / 3] ((h%3:Nat):Int)=sideF m.mf[k / 3] ((k%3:Nat):Int):=by
    unfold sdN at e
    rw [getD_lt hi,getD_lt hj] at e
    exact e
  rcases Nat.lt_trichotomy (h / 3) (k / 3) with hlt | heq | hgt
  · have := List.pairwise_iff_getElem.1 g3 (h / 3) (k / 3) hi hj hlt
    exact absurd e'.symm ((same_iff _ _).1 this _ _ (by omega) (by omega))
  · have e2 : sideF m.mf[h / 3] ((h % 3 : Nat) : Int) = sideF m.mf[h / 3] ((k % 3 : Nat) : Int) := by
      rw [e']
      congr 2
      exact heq.symm
    have:=face_apart (g1 _ (List.getElem_mem hi)) _ _ (by omega) (by omega) e2
    omega
  · have := List.pairwise_iff_getElem.1 g3 (k / 3) (h / 3) hj hi hgt
    exact absurd e' ((same_iff _ _).1 this _ _ (by omega) (by omega))
theorem sides_val : ∀ (l : List Face) (mp : List (Pr × Int)) (i : Nat) (p : Pr) (v : Int), mfind kq_pr (sidesF mp l i) p = some v → mfind kq_pr mp p = some v ∨ ∃ j : Nat, ∃ hj : j < l.length, v = ((i + j : Nat) : Int) ∧ hasS p l[j] = true := by
  intro l
  induction l with
  | nil=>intro mp i p v h; exact .inl h
  | cons f r ih =>
    intro mp i p v h
    rcases ih (side3 mp f (i:Int)) (i+1) p v h with h | ⟨j,hj,rfl,hp⟩
    · rw [side3_find] at h
      cases hh:hasS p f with
      | false=>rw [hh,cond_false] at h; exact .inl h
      | true =>
        rw [hh,cond_true] at h
        cases h
        exact .inr ⟨0,by simp,rfl,hh⟩
    · exact .inr ⟨j+1,by simp; omega,by omega,by simpa using hp⟩
theorem nb_none {m:Mesh} {f:Face} {q:Int} (h:opn m (sideF f q)=true):nbF (sidesF [] m.mf 0) f q = -1:=by
  have hh:=nb_opn m f q
  rw [h] at hh
  unfold nbF at hh ⊢
  cases hx:mhas kq_pr (sidesF [] m.mf 0) ⟨(sideF f q).p1,(sideF f q).p0⟩ with
  | false=>rfl
  | true =>
    rw [hx,cond_true] at hh
    have h2:=(sides_find m.mf [] 0 (fun p v h=>by cases h) ⟨(sideF f q).p1,(sideF f q).p0⟩).2
    unfold mhas at hx
    unfold mgetD at hh
    cases hm:mfind kq_pr (sidesF [] m.mf 0) ⟨(sideF f q).p1,(sideF f q).p0⟩ with
    | none=>rw [hm] at hx; cases hx
    | some v =>
      rw [hm] at hh
      have:=h2 v hm
      have:=iltI hh
      simp at this
      omega
theorem nb_some {m:Mesh} {f:Face} {q:Int} (h:opn m (sideF f q)=false):∃ g:Nat,∃ hg:g < m.mf.length,nbF (sidesF [] m.mf 0) f q=(g:Int)∧hasS (rev (sideF f q)) m.mf[g]=true:=by
  have hh:=nb_opn m f q
  rw [h] at hh
  unfold nbF at hh ⊢
  cases hx:mhas kq_pr (sidesF [] m.mf 0) ⟨(sideF f q).p1,(sideF f q).p0⟩ with
  | false=>rw [hx] at hh; cases hh
  | true =>
    rw [cond_true]
    unfold mhas at hx
    unfold mgetD
    cases hm:mfind kq_pr (sidesF [] m.mf 0) ⟨(sideF f q).p1,(sideF f q).p0⟩ with
    | none=>rw [hm] at hx; cases hx
    | some v =>
      rcases sides_val m.mf [] 0 _ v hm with h | ⟨j,hj,rfl,hp⟩
      · cases h
      · exact ⟨j,hj,by simp,hp⟩
theorem opp_val {g : Face} {s : Pr} (h : hasS (rev s) g = true) : ∃ k : Nat, k < 3 ∧ oppF g s = (k : Int) ∧ sideF g (k : Int) = rev s := by
  have hb:∀ q:Int,oppB g s q=true↔sideF g q=rev s:=fun q=>by
    unfold oppB rev
    simp only [Bool.and_true,Bool.and_eq_true,beq_iff_eq]
    constructor
    · rintro ⟨h1, h2⟩
      cases hs:sideF g q with
      | mk a b=>rw [hs] at h1 h2; simp only at h1 h2; rw [h1,h2]
    · intro h; rw [h]; exact ⟨rfl,rfl⟩
  have hf:∀ q:Int,oppB g s q=false→sideF g q≠rev s:=fun q h e=>by rw [(hb q).2 e] at h; cases h
  obtain ⟨k,hk,e⟩:=(has_iff _ _).1 h
  unfold oppF
  cases h0:oppB g s 0 with
  | true=>exact ⟨0,by omega,rfl,(hb 0).1 h0⟩
  | false =>
    cases h1:oppB g s 1 with
    | true=>exact ⟨1,by omega,rfl,(hb 1).1 h1⟩
    | false =>
      cases h2:oppB g s 2 with
      | true=>exact ⟨2,by omega,rfl,(hb 2).1 h2⟩
      | false =>
        match k,hk,e with
        | 0,_,e=>exact absurd e (hf 0 h0)
        | 1,_,e=>exact absurd e (hf 1 h1)
        | 2,_,e=>exact absurd e (hf 2 h2)
def nK:N3→Nat→Int
  | n,0=>n.n0
  | n,1=>n.n1
  | n,_=>n.n2
def dK:B3→Nat→Bool
  | b,0=>b.d0
  | b,1=>b.d1
  | b,_=>b.d2
def dS:B3→Nat→B3
  | b,0=>⟨true,b.d1,b.d2⟩
  | b,1=>⟨b.d0,true,b.d2⟩
  | b,_=>⟨b.d0,b.d1,true⟩
noncomputable def isD (dn:List B3) (h:Nat):Bool:=dK (List.getD dn (h / 3) d_b3) (h%3)
noncomputable def setD (dn:List B3) (h:Nat):List B3:=List.set dn (h / 3) (dS (List.getD dn (h / 3) d_b3) (h%3))
theorem dK_dS (b:B3) (i k:Nat) (hi:i < 3) (hk:k < 3):dK (dS b i) k=(Nat.beq i k||dK b k):=by
  match i,hi,k,hk with
  | 0,_,0,_=>rfl
  | 0,_,1,_=>rfl
  | 0,_,2,_=>rfl
  | 1,_,0,_=>rfl
  | 1,_,1,_=>rfl
  | 1,_,2,_=>rfl
  | 2,_,0,_=>rfl
  | 2,_,1,_=>rfl
  | 2,_,2,_=>rfl
theorem isD_set {dn:List B3} {h:Nat} (hh:h < 3 * dn.length) (k:Nat):isD (setD dn h) k=(Nat.beq h k||isD dn k):=by
  unfold isD setD
  have hl:h / 3 < dn.length:=by omega
  by_cases e:h / 3=k / 3
  · have : List.getD (List.set dn (h / 3) (dS (List.getD dn (h / 3) d_b3) (h % 3))) (k / 3) d_b3 = dS (List.getD dn (h / 3) d_b3) (h % 3) := by
      rw [← e,getD_lt (by rw [List.length_set]; exact hl)]
      simp
    rw [this,dK_dS _ _ _ (by omega) (by omega),e]
    congr 1
    by_cases q:h=k
    · subst q; rw [Nat.beq_refl,Nat.beq_refl]
    · rw [nbeq_ne q,nbeq_ne (by omega)]
  · have : List.getD (List.set dn (h / 3) (dS (List.getD dn (h / 3) d_b3) (h % 3))) (k / 3) d_b3 = List.getD dn (k / 3) d_b3 := by
      simp only [List.getD,List.getElem?_set]
      rw [if_neg e]
    rw [this,nbeq_ne (by rintro rfl; exact e rfl)]
    rfl
theorem isD_new (n h:Nat):isD (List.replicate n d_b3) h=false:=by
  unfold isD
  have:List.getD (List.replicate n d_b3) (h / 3) d_b3=d_b3:=by
    rw [List.getD,List.getElem?_replicate]
    split<;>rfl
  rw [this]
  rcases mod3 h with e | e | e<;>rw [e]<;>rfl
noncomputable def left (N:Nat) (dn:List B3):Nat:=(List.range (3 * N)).countP fun h => !(isD dn h)
theorem countP_lt {α:Type} (p q:α→Bool) (x:α) (hp:p x=true) (hq:q x=false) (hi:∀ y,q y=true→p y=true):∀ l:List α,x∈l→l.countP q < l.countP p:=by
  intro l
  induction l with
  | nil=>intro h; cases h
  | cons a l ih =>
    intro h
    have hle:l.countP q≤l.countP p:=List.countP_mono_left fun y _ hy=>hi y hy
    rw [List.countP_cons,List.countP_cons]
    rcases List.mem_cons.1 h with rfl | h
    · rw [hp,hq]; simp; omega
    · have := ih h
      cases ha:q a with
      | true=>rw [hi a ha]; simp; omega
      | false=>cases p a<;>simp<;>omega
theorem left_set {N:Nat} {dn:List B3} {h:Nat} (hl:dn.length=N) (hh:h < 3 * N) (hd:isD dn h=false):left N (setD dn h) < left N dn:=by
  unfold left
  refine countP_lt _ _ h (by rw [hd]; rfl) (by rw [isD_set (by omega),Nat.beq_refl]; rfl) (fun y hy => ?_) _ (List.mem_range.2 hh)
  rw [isD_set (by omega)] at hy
  cases hx:isD dn y with
  | false=>rfl
  | true=>rw [hx] at hy; simp at hy
namespace border
theorem p4 (nr:List N3) (dn:List B3) (out:List (List Int)) (i x y:Int) (s:Nat) (hs:s < 3) (ms:List Spot) (mf:List Face) (k3:Y3) (k5:Y5) (k6:Y6):sh4 nr dn out i x y (s:Int) ms mf k3 k5 k6 =
    chk (inb i nr.length) (chk (nlt i.toNat nr.length) (condB (nK (List.getD nr i.toNat d_n3) s != (-1:Int)) (k5 nr dn out i x y (s:Int) ms mf) (chk (inb i dn.length) (chk (nlt i.toNat dn.length) (condB (dK (List.getD dn i.toNat d_b3) s) (k5 nr dn out i x y (s:Int) ms mf) (k6 nr dn out i (s:Int) x y (s:Int) ms mf)))))):=by
  obtain rfl | rfl | rfl:s=0∨s=1∨s=2:=by omega
  · kernel_rfl
  · kernel_rfl
  · kernel_rfl
theorem p8 (nr:List N3) (dn:List B3) (out:List (List Int)) (i:Int) (bd:List Int) (f:Int) (s:Nat) (hs:s < 3) (x y z:Int) (ms:List Spot) (mf:List Face) (k7:Y7) (k9:Y9):sh8 nr dn out i bd f (s:Int) x y z ms mf k7 k9 =
    chk (inb f dn.length) (chk (nlt f.toNat dn.length) (condB (!(dK (List.getD dn f.toNat d_b3) s)) (chk (inb f dn.length) (chk (nlt f.toNat dn.length&&true) (chk (inb f mf.length) (chk (nle ((List.length bd+List.length ([(sideF (List.getD mf f.toNat d_face) (s:Int)).p0]:List Int)) * 8) 140737488355328&&nle (List.length bd+List.length ([(sideF (List.getD mf f.toNat d_face) (s:Int)).p0]:List Int)) 9223372036854775807)
      (k9 nr (List.set dn f.toNat (dS (List.getD dn f.toNat d_b3) s)) out i (bd++[(sideF (List.getD mf f.toNat d_face) (s:Int)).p0]) f (((s+1)%3:Nat):Int) x y z ms mf))))) (k7 nr dn out i bd x y z ms mf))):=by
  obtain rfl | rfl | rfl:s=0∨s=1∨s=2:=by omega
  · kernel_rfl
  · kernel_rfl
  · kernel_rfl
theorem p9 (nr:List N3) (dn:List B3) (out:List (List Int)) (i:Int) (bd:List Int) (f:Int) (s:Nat) (hs:s < 3) (x y z:Int) (ms:List Spot) (mf:List Face) (k8:Y8) (k9:Y9):sh9 nr dn out i bd f (s:Int) x y z ms mf k8 k9 =
    chk (inb f nr.length) (chk (nlt f.toNat nr.length) (condB (nK (List.getD nr f.toNat d_n3) s != (-1:Int)) (chk (inb f nr.length) (chk (nlt f.toNat nr.length) (chk (inb (nK (List.getD nr f.toNat d_n3) s) mf.length) (chk (inb f mf.length)
      (k9 nr dn out i bd (nK (List.getD nr f.toNat d_n3) s) (Int.tmod (IntKind.wrap .i64 ((oppF (List.getD mf (Int.toNat (nK (List.getD nr f.toNat d_n3) s)) d_face) (sideF (List.getD mf f.toNat d_face) (s:Int)))+(1:Int))) (3:Int)) x y z ms mf))))) (k8 nr dn out i bd f (s:Int) x y z ms mf))):=by
  obtain rfl | rfl | rfl:s=0∨s=1∨s=2:=by omega
  · kernel_rfl
  · kernel_rfl
  · kernel_rfl
def fN (h:Nat):Int:=((h / 3:Nat):Int)
def sN (h:Nat):Int:=((h%3:Nat):Int)
theorem near_at (m:Mesh) {h:Nat} (hh:h < 3 * m.mf.length):nK (List.getD (neighL m) (h / 3) d_n3) (h%3)=nbF (sidesF [] m.mf 0) (List.getD m.mf (h / 3) d_face) (sN h):=by
  have hi:h / 3 < m.mf.length:=by omega
  have hnl:(neighL m).length=m.mf.length:=by simp [neighL,neighF]
  have hnr:List.getD (neighL m) (h / 3) d_n3=nbs (sidesF [] m.mf 0) m.mf[h / 3]:=by
    rw [getD_lt (by rw [hnl]; exact hi)]
    simp [neighL,neighF]
  rw [hnr,getD_lt hi]
  unfold sN
  rcases mod3 h with e | e | e<;>rw [e]<;>rfl
theorem neg1 (m:Mesh) {h:Nat} (hh:h < 3 * m.mf.length):(nK (List.getD (neighL m) (h / 3) d_n3) (h%3) != (-1:Int)) = !(opnN m h):=by
  rw [near_at m hh]
  unfold opnN sdN
  cases ho:opn m (sideF (List.getD m.mf (h / 3) d_face) (sN h)) with
  | true =>
    rw [nb_none ho]
    unfold sN at ho
    rw [ho]
    rfl
  | false =>
    obtain ⟨g,hg,e,_⟩:=nb_some ho
    rw [e]
    unfold sN at ho
    rw [ho]
    have:((g:Int) != -1)=true:=by
      rw [bne_iff_ne]; omega
    rw [this]
    rfl
section
variable (m:Mesh) (hU:Uniq m) (hn:m.mf.length≤4000) (K2:Y2) (K4:Y4) (out:List (List Int)) (i x y z:Int)
include hU hn
theorem around (K8 : Y8) (dn : List B3) (bd : List Int) : ∀ (k h : Nat), h < 3 * m.mf.length → opnN m (itN m k h) = true → ∀ n, k < n →
    ∃ h',h' < 3 * m.mf.length∧opnN m h'=true∧(sdN m h').p0=(sdN m h).p0∧f9 K2 K4 K8 n (neighL m) dn out i bd (fN h) (sN h) x y z m.ms m.mf=K8 (neighL m) dn out i bd (fN h') (sN h') x y z m.ms m.mf:=by
  have hnl:(neighL m).length=m.mf.length:=by simp [neighL,neighF]
  intro k
  induction k with
  | zero =>
    intro h hh ho n hk
    obtain ⟨n,rfl⟩:∃ q,n=q+1:=⟨n - 1,by omega⟩
    refine ⟨h,hh,ho,rfl,?_⟩
    show sh9 (neighL m) dn out i bd (fN h) ((h%3:Nat):Int) x y z m.ms m.mf K8 (f9 K2 K4 K8 n)=_
    rw [p9 _ _ _ _ _ _ _ (by omega)]
    unfold fN
    rw [inbT (show h / 3 < (neighL m).length by rw [hnl]; omega),toNat_nat,nltT (show h / 3 < (neighL m).length by rw [hnl]; omega),chkT,chkT,neg1 m hh,show opnN m h=true from ho]
    rfl
  | succ k ih =>
    intro h hh ho n hk
    obtain ⟨n,rfl⟩:∃ q,n=q+1:=⟨n - 1,by omega⟩
    cases hc:opnN m h with
    | true =>
      refine ⟨h,hh,hc,rfl,?_⟩
      show sh9 (neighL m) dn out i bd (fN h) ((h%3:Nat):Int) x y z m.ms m.mf K8 (f9 K2 K4 K8 n)=_
      rw [p9 _ _ _ _ _ _ _ (by omega)]
      unfold fN
      rw [inbT (show h / 3 < (neighL m).length by rw [hnl]; omega),toNat_nat,nltT (show h / 3 < (neighL m).length by rw [hnl]; omega),chkT,chkT,neg1 m hh,hc]
      rfl
    | false =>
      have hphi:phi m h=nxt (opp m h):=by unfold phi; rw [hc]; rfl
      have ho':opnN m (itN m k (phi m h))=true:=ho
      obtain ⟨h',h1,h2,h3,h4⟩:=ih (phi m h) (phi_lt hh) ho' n (by omega)
      have hos:=opp_spec hc
      refine ⟨h',h1,h2,?_,?_⟩
      · rw [h3, hphi, nxt_start, hos.2]
        rfl
      · refine Eq.trans ?_ h4
        have hop:opn m (sideF (List.getD m.mf (h / 3) d_face) (sN h))=false:=hc
        obtain ⟨g,hg,e1,e2⟩:=nb_some hop
        obtain ⟨q,hq,e3,e4⟩:=opp_val e2
        have hcode:3 * g+q=opp m h:=by
          refine hU _ _ (by omega) hos.1 ?_
          rw [sdN_at m hg q hq,e4,hos.2]
          rfl
        show sh9 (neighL m) dn out i bd (fN h) ((h%3:Nat):Int) x y z m.ms m.mf K8 (f9 K2 K4 K8 n)=_
        rw [p9 _ _ _ _ _ _ _ (by omega)]
        unfold fN
        rw [inbT (show h / 3 < (neighL m).length by rw [hnl]; omega),toNat_nat,nltT (show h / 3 < (neighL m).length by rw [hnl]; omega),chkT,chkT,neg1 m hh,hc,near_at m hh,e1,inbT hg,inbT (show h / 3 < m.mf.length by omega),toNat_nat,getD_lt hg]
        have e3':oppF m.mf[g] (sideF (List.getD m.mf (h / 3) d_face) ((h%3:Nat):Int))=(q:Int):=e3
        rw [e3',wrapS q (by omega),show Int.tmod ((q+1:Nat):Int) 3=(((q+1)%3:Nat):Int) from tmodN (q+1) 3]
        have a1:(g:Int)=((phi m h / 3:Nat):Int):=by rw [hphi,nxt_div]; omega
        have a2:(((q+1)%3:Nat):Int)=sN (phi m h):=by unfold sN; rw [hphi,nxt_mod]; omega
        rw [a1,a2]
        rfl
theorem along (hF : ∀ e, e < 3 * m.mf.length → opnN m e = true → ∃ k, k ≤ 3 * m.mf.length ∧ opnN m (itN m k (nxt e)) = true) : ∀ (c h : Nat) (dn : List B3) (bd : List Int) (n : Nat), h < 3 * m.mf.length → opnN m h = true → dn.length = m.mf.length → left m.mf.length dn ≤ c → c < n → bd.length + left m.mf.length dn ≤ 3 * m.mf.length →
    ∃ dn' bd', f8 K2 K4 n (neighL m) dn out i bd (fN h) (sN h) x y z m.ms m.mf = f7 K2 K4 (neighL m) dn' out i bd' x y z m.ms m.mf ∧ dn'.length = m.mf.length ∧ isD dn' h = true ∧ (∀ k, isD dn k = true → isD dn' k = true) ∧ bd'.length + left m.mf.length dn' ≤ bd.length + left m.mf.length dn ∧
      (∀ k,k < 3 * m.mf.length→isD dn' k=true→isD dn k=true∨(opnN m k=true∧(sdN m k).p0∈bd'))∧(∀ v∈bd,v∈bd')∧(∀ v∈bd',v∈bd∨∃ k,k < 3 * m.mf.length∧opnN m k=true∧(sdN m k).p0=v):=by
  intro c
  induction c with
  | zero =>
    intro h dn bd n hh ho hl hc hn' hb
    have hd:isD dn h=true:=by
      cases hx:isD dn h with
      | true=>rfl
      | false=>have:=left_set hl hh hx; omega
    obtain ⟨n,rfl⟩:∃ q,n=q+1:=⟨n - 1,by omega⟩
    refine ⟨dn,bd,?_,hl,hd,fun _ h=>h,Nat.le_refl _,fun k _ hk => .inl hk,fun _ h=>h,fun v hv => .inl hv⟩
    show sh8 (neighL m) dn out i bd (fN h) ((h%3:Nat):Int) x y z m.ms m.mf (f7 K2 K4) (f9 K2 K4 (f8 K2 K4 n) 100000)=_
    rw [p8 _ _ _ _ _ _ _ (by omega)]
    unfold fN
    rw [inbT (show h / 3 < dn.length by omega),toNat_nat,nltT (show h / 3 < dn.length by omega),chkT,chkT,show dK (List.getD dn (h / 3) d_b3) (h%3)=true from hd]
    rfl
  | succ c ih =>
    intro h dn bd n hh ho hl hc hn' hb
    obtain ⟨n,rfl⟩:∃ q,n=q+1:=⟨n - 1,by omega⟩
    have e0:f8 K2 K4 (n+1) (neighL m) dn out i bd (fN h) (sN h) x y z m.ms m.mf=condB (!(isD dn h)) (f9 K2 K4 (f8 K2 K4 n) 100000 (neighL m) (setD dn h) out i (bd++[(sdN m h).p0]) (fN (nxt h)) (sN (nxt h)) x y z m.ms m.mf) (f7 K2 K4 (neighL m) dn out i bd x y z m.ms m.mf):=by
      show sh8 (neighL m) dn out i bd (fN h) ((h%3:Nat):Int) x y z m.ms m.mf (f7 K2 K4) (f9 K2 K4 (f8 K2 K4 n) 100000)=_
      rw [p8 _ _ _ _ _ _ _ (by omega)]
      unfold fN sN
      rw [inbT (show h / 3 < dn.length by omega),toNat_nat,nltT (show h / 3 < dn.length by omega),inbT (show h / 3 < m.mf.length by omega),chkT,chkT,chkT,Bool.and_self,chkT,chkT,nleT (show (List.length bd+_) * 8≤140737488355328 by simp; omega),nleT (show List.length bd+_≤9223372036854775807 by simp; omega),Bool.and_self,chkT,nxt_div,nxt_mod]
      rfl
    cases hx:isD dn h with
    | true =>
      refine ⟨dn,bd,?_,hl,hx,fun _ h=>h,Nat.le_refl _,fun k _ hk => .inl hk,fun _ h=>h,fun v hv => .inl hv⟩
      rw [e0,hx]
      rfl
    | false =>
      have hlt:=left_set hl hh hx
      obtain ⟨k,hk,hko⟩:=hF h hh ho
      obtain ⟨h',g1,g2,g3,g4⟩:=around m hU hn K2 K4 out i x y z (f8 K2 K4 n) (setD dn h) (bd++[(sdN m h).p0]) k (nxt h) (nxt_lt hh) hko 100000 (by omega)
      have hl':(setD dn h).length=m.mf.length:=by unfold setD; rw [List.length_set]; exact hl
      obtain ⟨dn',bd',q1,q2,q3,q4,q5,q6,q7,q8⟩:=ih h' (setD dn h) (bd++[(sdN m h).p0]) n g1 g2 hl' (by omega) (by omega) (by simp; omega)
      have hset:∀ j,isD dn j=true→isD (setD dn h) j=true:=fun j hj=>by rw [isD_set (by omega),hj,Bool.or_true]
      have hin:(sdN m h).p0∈bd':=q7 _ (List.mem_append_right _ (List.mem_singleton.2 rfl))
      refine ⟨dn',bd',?_,q2,q4 h (by rw [isD_set (by omega),Nat.beq_refl]; rfl),fun j hj=>q4 j (hset j hj),?_,fun j hj hd => ?_,fun v hv=>q7 v (List.mem_append_left _ hv),fun v hv => ?_⟩
      · rw [e0, hx]
        exact g4.trans q1
      · simp at q5; omega
      · rcases q6 j hj hd with hd | hd
        · rw [isD_set (by omega)] at hd
          cases hq:Nat.beq h j with
          | true =>
            have:h=j:=Nat.eq_of_beq_eq_true hq
            subst this
            exact .inr ⟨ho,hin⟩
          | false =>
            rw [hq,Bool.false_or] at hd
            exact .inl hd
        · exact .inr hd
      · rcases q8 v hv with hv | hv
        · rcases List.mem_append.1 hv with hv | hv
          · exact .inl hv
          · exact .inr ⟨h,hh,ho,(List.mem_singleton.1 hv).symm⟩
        · exact .inr hv
end
structure Kept (m:Mesh) (p:Nat) (dn:List B3) (out:List (List Int)):Prop where
  l:dn.length=m.mf.length
  all:∀ h,h < p→opnN m h=true→isD dn h=true
  inn:∀ h,h < 3 * m.mf.length→isD dn h=true→opnN m h=true∧(sdN m h).p0∈out.flatten
  of:∀ v∈out.flatten,∃ h,h < 3 * m.mf.length∧opnN m h=true∧(sdN m h).p0=v
  ol:out.length≤p
  fl:out.flatten.length+left m.mf.length dn≤3 * m.mf.length
section
variable (m:Mesh) (hU:Uniq m) (hn:m.mf.length≤4000)
include hU hn
theorem corner (K2 : Y2) (f : Nat) (hf : f < m.mf.length) (x : Int) : ∀ (n k : Nat) (dn : List B3) (out : List (List Int)), 3 < n + k → k ≤ 3 → Kept m (3 * f + k) dn out →
    ∃ dn' out',f4 K2 n (neighL m) dn out (f:Int) x (f:Int) (k:Int) m.ms m.mf=f3 K2 (neighL m) dn' out' x (f:Int) m.ms m.mf∧Kept m (3 * (f+1)) dn' out':=by
  have hnl:(neighL m).length=m.mf.length:=by simp [neighL,neighF]
  intro n
  induction n with
  | zero=>intro k dn out h1 h2; omega
  | succ n ih =>
    intro k dn out h1 h2 hK
    by_cases hk:k < 3
    · have hh : 3 * f + k < 3 * m.mf.length := by omega
      have hd3:(3 * f+k) / 3=f:=by omega
      have hm3:(3 * f+k)%3=k:=by omega
      have e5:∀ dn out,f5 K2 (f4 K2 n) (neighL m) dn out (f:Int) x (f:Int) (k:Int) m.ms m.mf=f4 K2 n (neighL m) dn out (f:Int) x (f:Int) ((k+1:Nat):Int) m.ms m.mf:=fun dn out=>by
        show f4 K2 n (neighL m) dn out (f:Int) x (f:Int) (IntKind.wrap .i64 ((k:Int)+1)) m.ms m.mf=_
        rw [wrapS k (by omega)]
      have e4:f4 K2 (n+1) (neighL m) dn out (f:Int) x (f:Int) (k:Int) m.ms m.mf=condB (!(opnN m (3 * f+k))) (f4 K2 n (neighL m) dn out (f:Int) x (f:Int) ((k+1:Nat):Int) m.ms m.mf) (condB (isD dn (3 * f+k)) (f4 K2 n (neighL m) dn out (f:Int) x (f:Int) ((k+1:Nat):Int) m.ms m.mf) (f8 K2 (f4 K2 n) 100000 (neighL m) dn out (f:Int) [] (fN (3 * f+k)) (sN (3 * f+k)) x (f:Int) (k:Int) m.ms m.mf)):=by
        show sh4 (neighL m) dn out (f:Int) x (f:Int) (k:Int) m.ms m.mf (f3 K2) (f5 K2 (f4 K2 n)) (f6 K2 (f4 K2 n))=_
        have hn1:=neg1 m hh
        rw [hd3,hm3] at hn1
        rw [p4 _ _ _ _ _ _ _ hk,inbT (show f < (neighL m).length by omega),toNat_nat,nltT (show f < (neighL m).length by omega),inbT (show f < dn.length by rw [hK.l]; exact hf),nltT (show f < dn.length by rw [hK.l]; exact hf),chkT,chkT,chkT,chkT,hn1,e5]
        unfold isD fN sN
        rw [hd3,hm3]
        rfl
      have hskip:(opnN m (3 * f+k)=true→isD dn (3 * f+k)=true)→Kept m (3 * f+(k+1)) dn out:=fun hs =>
        ⟨hK.l,fun h hlt ho=>by
          rcases Nat.lt_or_ge h (3 * f+k) with hl | hl
          · exact hK.all h hl ho
          · have : h = 3 * f + k := by omega
            subst this
            exact hs ho,hK.inn,hK.of,by have:=hK.ol; omega,hK.fl⟩
      cases ho:opnN m (3 * f+k) with
      | false =>
        rw [e4,ho]
        exact ih (k+1) dn out (by omega) hk (hskip fun h=>by rw [ho] at h; cases h)
      | true =>
        cases hd:isD dn (3 * f+k) with
        | true =>
          rw [e4,ho,hd]
          exact ih (k+1) dn out (by omega) hk (hskip fun _=>hd)
        | false =>
          have hF:=fun e he h=>ends hU (e:=e) he h
          have hfl:=hK.fl
          obtain ⟨dn',bd',q1,q2,q3,q4,q5,q6,q7,q8⟩:=along m hU hn K2 (f4 K2 n) out (f:Int) x (f:Int) (k:Int) hF (left m.mf.length dn) (3 * f+k) dn [] 100000 hh ho hK.l (Nat.le_refl _) (by omega) (by simp; omega)
          have hK':Kept m (3 * f+(k+1)) dn' (out++[bd']):=by
            refine ⟨q2,fun h hlt hoo => ?_,fun h hlt hdd => ?_,fun v hv => ?_,by have:=hK.ol; simp; omega,?_⟩
            · rcases Nat.lt_or_ge h (3 * f + k) with hl | hl
              · exact q4 h (hK.all h hl hoo)
              · have : h = 3 * f + k := by omega
                subst this
                exact q3
            · rw [List.flatten_append]
              rcases q6 h hlt hdd with h1 | h1
              · exact ⟨(hK.inn h hlt h1).1,List.mem_append_left _ (hK.inn h hlt h1).2⟩
              · exact ⟨h1.1,List.mem_append_right _ (by simpa using h1.2)⟩
            · rw [List.flatten_append] at hv
              rcases List.mem_append.1 hv with hv | hv
              · exact hK.of v hv
              · have hv : v ∈ bd' := by simpa using hv
                rcases q8 v hv with h1 | h1
                · cases h1
                · exact h1
            · rw [List.flatten_append, List.length_append]
              have:([bd']:List (List Int)).flatten=bd':=by simp
              rw [this]
              simp at q5
              omega
          obtain ⟨dn2,out2,r1,r2⟩:=ih (k+1) dn' (out++[bd']) (by omega) hk hK'
          refine ⟨dn2,out2,?_,r2⟩
          rw [e4,ho,hd]
          refine q1.trans (Eq.trans ?_ r1)
          show sh7 (neighL m) dn' out (f:Int) bd' x (f:Int) (k:Int) m.ms m.mf (f5 K2 (f4 K2 n))=_
          unfold sh7
          have:=hK.ol
          rw [nleT (show (List.length out+List.length ([bd']:List (List Int))) * 24≤140737488355328 by simp; omega),nleT (show List.length out+List.length ([bd']:List (List Int))≤9223372036854775807 by simp; omega),Bool.and_self,chkT]
          exact e5 dn' _
    · have : k = 3 := by omega
      subst this
      refine ⟨dn,out,?_,by rw [show 3 * (f+1)=3 * f+3 by omega]; exact hK⟩
      show sh4 (neighL m) dn out (f:Int) x (f:Int) 3 m.ms m.mf (f3 K2) (f5 K2 (f4 K2 n)) (f6 K2 (f4 K2 n))=_
      unfold sh4
      rw [iltF (by decide),condF]
theorem through:∀ (n f:Nat) (dn:List B3) (out:List (List Int)),m.mf.length < n+f→f≤m.mf.length→Kept m (3 * f) dn out →
    ∃ dn' out',f2 n (neighL m) dn out (Int.ofNat m.mf.length) (f:Int) m.ms m.mf=f1 out'∧Kept m (3 * m.mf.length) dn' out':=by
  intro n
  induction n with
  | zero=>intro f dn out h1 h2; omega
  | succ n ih =>
    intro f dn out h1 h2 hK
    show ∃ dn' out',sh2 (neighL m) dn out (Int.ofNat m.mf.length) (f:Int) m.ms m.mf f1 (f4 (f2 n) 100000)=_∧_
    unfold sh2
    by_cases hf:f < m.mf.length
    · rw [iltT (by simp; omega), condT]
      obtain ⟨dn1,out1,q1,q2⟩:=corner m hU hn (f2 n) f hf (Int.ofNat m.mf.length) 100000 0 dn out (by omega) (by omega) hK
      obtain ⟨dn2,out2,r1,r2⟩:=ih (f+1) dn1 out1 (by omega) hf q2
      refine ⟨dn2,out2,q1.trans (Eq.trans ?_ r1),r2⟩
      show f2 n (neighL m) dn1 out1 (Int.ofNat m.mf.length) (IntKind.wrap .i64 ((f:Int)+1)) m.ms m.mf=_
      rw [wrapS f (by omega)]
    · have : f = m.mf.length := by omega
      subst this
      rw [iltF (by simp),condF]
      exact ⟨dn,out,rfl,hK⟩
end
end border
theorem border_valid {m:Mesh} (hv:validM m=true):brdOk m=true∧∃ dn,border.Kept m (3 * m.mf.length) dn (borderL m):=by
  have hs:=valid_small hv
  have hz:sizeOk m=true:=by unfold sizeOk; rw [nleT (by omega),nleT (by omega)]; rfl
  have ha:argE m=0:=by unfold argE; rw [hv]; rfl
  have hK:border.Kept m (3 * 0) (List.replicate m.mf.length d_b3) [] :=
    ⟨by simp,fun h hh=>(by omega),fun h _ hd=>(by rw [isD_new] at hd; cases hd),fun v hv=>(by cases hv),by simp,by
      have:left m.mf.length (List.replicate m.mf.length d_b3)≤(List.range (3 * m.mf.length)).length:=List.countP_le_length
      simp at this ⊢
      exact this⟩
  obtain ⟨dn,out,q1,q2⟩:=border.through m (valid_uniq hv) hs.2 100000 0 _ [] (by omega) (by omega) hK
  have hf:border.f0 m=border.outBd out (argE m):=by
    show border.sh0 m (border.f2 100000)=_
    unfold border.sh0
    rw [hz,chkT,hv,show (!true)=false from rfl,condF,chkT,ileT (show (0:Int)≤Int.ofNat m.mf.length by simp),ileT (Int.le_refl _),ileT (show Int.ofNat m.mf.length * 3≤140737488355328 by simp; omega),toNat_ofNat,ha]
    exact q1
  have hk:=brd_T ⟨hz,out,hf⟩
  refine ⟨hk,dn,?_⟩
  have he:borderL m=out:=by
    have:=(brd_spec hk).symm.trans hf
    unfold border.outBd at this
    injection this with this
    injection this with this _
    injection this with this
    injection this with this _
    injection this with _ this
  rw [he]
  exact q2
end Go.Proofs.YtnofdcckddfooaaGreatDoor
