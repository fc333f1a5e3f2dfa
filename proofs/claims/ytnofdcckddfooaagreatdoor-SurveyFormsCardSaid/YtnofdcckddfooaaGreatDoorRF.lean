/- Borders of a valid surface: the code's walk ends, and goes along just the sides that no other face has. -/
import Derived.Test.YtnofdcckddfooaaGreatDoorRC
import Derived.Test.YtnofdcckddfooaaGreatDoorVC
namespace Go.Proofs.YtnofdcckddfooaaGreatDoor
set_option linter.unusedSectionVars false
set_option linter.unusedSimpArgs false
set_option linter.unusedVariables false
set_option maxRecDepth 100000
noncomputable def sdN (m:Mesh) (h:Nat):Pr:=sideF (List.getD m.mf (h / 3) d_face) ((h%3:Nat):Int)
def rev (p:Pr):Pr:=⟨p.p1,p.p0⟩
def nxt (h:Nat):Nat:=3 * (h / 3)+(h%3+1)%3
theorem rev_rev (p:Pr):rev (rev p)=p:=rfl
theorem nxt_lt {h N:Nat} (hh:h < 3 * N):nxt h < 3 * N:=by unfold nxt; omega
theorem nxt_inj {h k:Nat} (e:nxt h=nxt k):h=k:=by unfold nxt at e; omega
def Uniq (m:Mesh):Prop:=∀ h k,h < 3 * m.mf.length→k < 3 * m.mf.length→sdN m h=sdN m k→h=k
theorem sdN_at (m:Mesh) {i:Nat} (hi:i < m.mf.length) (k:Nat) (hk:k < 3):sdN m (3 * i+k)=sideF m.mf[i] (k:Int):=by
  unfold sdN
  rw [show (3 * i+k) / 3=i by omega,show (3 * i+k)%3=k by omega,getD_lt hi]
theorem has_iff (p:Pr) (g:Face):hasS p g=true↔∃ k:Nat,k < 3∧sideF g (k:Int)=p:=by
  unfold hasS
  simp only [Bool.or_eq_true,kq_pr_iff]
  constructor
  · rintro (h | h | h)
    · exact ⟨0,by omega,h.symm⟩
    · exact ⟨1,by omega,h.symm⟩
    · exact ⟨2,by omega,h.symm⟩
  · rintro ⟨k, hk, h⟩
    match k,hk,h with
    | 0,_,h=>exact .inl h.symm
    | 1,_,h=>exact .inr (.inl h.symm)
    | 2,_,h=>exact .inr (.inr h.symm)
theorem any_has (m:Mesh) (p:Pr):m.mf.any (hasS p)=true↔∃ h,h < 3 * m.mf.length∧sdN m h=p:=by
  rw [List.any_eq_true]
  constructor
  · rintro ⟨g, hg, hp⟩
    obtain ⟨i,hi,rfl⟩:=List.getElem_of_mem hg
    obtain ⟨k,hk,e⟩:=(has_iff p _).1 hp
    exact ⟨3 * i+k,by omega,(sdN_at m hi k hk).trans e⟩
  · rintro ⟨h, hh, e⟩
    have hi:h / 3 < m.mf.length:=by omega
    refine ⟨m.mf[h / 3],List.getElem_mem hi,(has_iff p _).2 ⟨h%3,by omega,?_⟩⟩
    rw [← e]
    unfold sdN
    rw [getD_lt hi]
noncomputable def opnN (m:Mesh) (h:Nat):Bool:=opn m (sdN m h)
theorem closed_ex {m:Mesh} {h:Nat} (hc:opnN m h=false):∃ k,k < 3 * m.mf.length∧sdN m k=rev (sdN m h):=by
  unfold opnN opn at hc
  rw [Bool.not_eq_false'] at hc
  exact (any_has m _).1 hc
theorem ex_closed {m:Mesh} {h k:Nat} (hk:k < 3 * m.mf.length) (e:sdN m k=rev (sdN m h)):opnN m h=false:=by
  unfold opnN opn
  rw [Bool.not_eq_false']
  exact (any_has m _).2 ⟨k,hk,e⟩
noncomputable def opp (m:Mesh) (h:Nat):Nat:=@dite _ (∃ k,k < 3 * m.mf.length∧sdN m k=rev (sdN m h)) (Classical.propDecidable _) (fun hx=>Classical.choose hx) (fun _=>h)
theorem opp_spec {m:Mesh} {h:Nat} (hc:opnN m h=false):opp m h < 3 * m.mf.length∧sdN m (opp m h)=rev (sdN m h):=by
  unfold opp
  rw [dif_pos (closed_ex hc)]
  exact Classical.choose_spec (closed_ex hc)
noncomputable def phi (m:Mesh) (h:Nat):Nat:=bif opnN m h then h else nxt (opp m h)
noncomputable def itN (m:Mesh):Nat→Nat→Nat
  | 0,h=>h
  | k+1,h=>itN m k (phi m h)
theorem itN_succ (m:Mesh):∀ (k h:Nat),itN m (k+1) h=phi m (itN m k h):=by
  intro k
  induction k with
  | zero=>intro h; rfl
  | succ k ih=>intro h; exact ih (phi m h)
theorem phi_lt {m:Mesh} {h:Nat} (hh:h < 3 * m.mf.length):phi m h < 3 * m.mf.length:=by
  unfold phi
  cases hc:opnN m h with
  | true=>exact hh
  | false=>exact nxt_lt (opp_spec hc).1
theorem itN_lt {m:Mesh}:∀ (k h:Nat),h < 3 * m.mf.length→itN m k h < 3 * m.mf.length:=by
  intro k
  induction k with
  | zero=>intro h hh; exact hh
  | succ k ih=>intro h hh; exact ih _ (phi_lt hh)
theorem nodup_bound:∀ (N:Nat) (l:List Nat),l.Nodup→(∀ x∈l,x < N)→l.length≤N:=by
  intro N
  induction N with
  | zero =>
    intro l _ h
    match l with
    | []=>exact Nat.le_refl _
    | x :: l=>exact absurd (h x (List.mem_cons_self ..)) (Nat.not_lt_zero _)
  | succ N ih =>
    intro l hn h
    have h1:=ih (l.erase N) (hn.erase N) fun x hx=>by
      have:=(hn.mem_erase_iff).1 hx
      have:=h x this.2
      omega
    have h2:l.length≤(l.erase N).length+1:=by
      rw [List.length_erase]
      split<;>omega
    omega
theorem ends {m : Mesh} (hU : Uniq m) {e : Nat} (he : e < 3 * m.mf.length) (ho : opnN m e = true) : ∃ k, k ≤ 3 * m.mf.length ∧ opnN m (itN m k (nxt e)) = true := by
  refine Classical.byContradiction fun hne => ?_
  have hc:∀ k,k≤3 * m.mf.length→opnN m (itN m k (nxt e))=false:=fun k hk=>by
    cases h:opnN m (itN m k (nxt e)) with
    | false=>rfl
    | true=>exact absurd ⟨k,hk,h⟩ hne
  have hs:∀ k,k≤3 * m.mf.length→itN m (k+1) (nxt e)=nxt (opp m (itN m k (nxt e))):=fun k hk=>by
    rw [itN_succ]
    unfold phi
    rw [hc k hk]
    rfl
  have hinj:∀ i j,i < j→j≤3 * m.mf.length→itN m i (nxt e)≠itN m j (nxt e):=by
    intro i
    induction i with
    | zero =>
      intro j hj hj2 heq
      obtain ⟨j,rfl⟩:∃ q,j=q+1:=⟨j - 1,by omega⟩
      rw [hs j (by omega)] at heq
      have h1:e=opp m (itN m j (nxt e)):=nxt_inj heq
      have h2:=(opp_spec (hc j (by omega))).2
      rw [← h1] at h2
      have h3:sdN m (itN m j (nxt e))=rev (sdN m e):=by rw [h2,rev_rev]
      rw [ex_closed (itN_lt j _ (nxt_lt he)) h3] at ho
      cases ho
    | succ i ih =>
      intro j hj hj2 heq
      obtain ⟨j,rfl⟩:∃ q,j=q+1:=⟨j - 1,by omega⟩
      rw [hs j (by omega),hs i (by omega)] at heq
      have h1:=nxt_inj heq
      have h2:=(opp_spec (hc j (by omega))).2
      have h3:=(opp_spec (hc i (by omega))).2
      rw [← h1,h3] at h2
      have h4:sdN m (itN m i (nxt e))=sdN m (itN m j (nxt e)):=by
        have:=congrArg rev h2
        rw [rev_rev,rev_rev] at this
        exact this
      exact ih j (by omega) (by omega) (hU _ _ (itN_lt i _ (nxt_lt he)) (itN_lt j _ (nxt_lt he)) h4)
  have hn:((List.range (3 * m.mf.length+1)).map fun k=>itN m k (nxt e)).Nodup:=by
    unfold List.Nodup
    rw [List.pairwise_map]
    refine List.Pairwise.imp_of_mem (fun {a b} ha hb hab => ?_) List.pairwise_lt_range
    have:=List.mem_range.1 hb
    exact hinj a b hab (by omega)
  have:=nodup_bound (3 * m.mf.length) _ hn fun x hx=>by
    obtain ⟨k,_,rfl⟩:=List.mem_map.1 hx
    exact itN_lt k _ (nxt_lt he)
  simp only [List.length_map,List.length_range] at this
  omega
theorem cleanR_apart (m : Mesh) : ∀ (r l : List Face), cleanR m l r = true → (∀ f ∈ r, goodC m f = true) ∧ (∀ g ∈ l, ∀ f ∈ r, sameS f g = false) ∧ r.Pairwise (fun g f => sameS f g = false) := by
  intro r
  induction r with
  | nil=>intro l _; exact ⟨fun f hf=>(by cases hf),fun g _ f hf=>(by cases hf),.nil⟩
  | cons f r ih =>
    intro l h
    simp only [cleanR,Bool.and_eq_true,Bool.not_eq_true'] at h
    obtain ⟨h1,h2,h3⟩:=ih (l++[f]) h.2.2.2.2
    refine ⟨fun g hg => ?_,fun g hg k hk => ?_,?_⟩
    · rcases List.mem_cons.1 hg with rfl | hg
      · exact h.1
      · exact h1 g hg
    · rcases List.mem_cons.1 hk with rfl | hk
      · have := List.any_eq_false.1 h.2.2.1 g hg
        simpa using this
      · exact h2 g (List.mem_append_left _ hg) k hk
    · rw [List.pairwise_cons]
      exact ⟨fun k hk=>h2 f (List.mem_append_right _ (List.mem_singleton.2 rfl)) k hk,h3⟩
theorem same_iff (f g : Face) : sameS f g = false ↔ ∀ i k : Nat, i < 3 → k < 3 → sideF f (i : Int) ≠ sideF g (k : Int) := by
  constructor
  · intro h i k hi hk e
    have:sameS f g=true:=by
      rw [same_has]
      have hh:hasS (sideF f (i:Int)) g=true:=(has_iff _ _).2 ⟨k,hk,e.symm⟩
      match i,hi,hh with
      | 0,_,hh=>rw [show hasS (sideF f 0) g=true from hh]; rfl
      | 1,_,hh=>rw [show hasS (sideF f 1) g=true from hh]; simp
      | 2,_,hh=>rw [show hasS (sideF f 2) g=true from hh]; simp
    rw [this] at h
    cases h
  · intro h
    rw [same_has]
    have hh:∀ i:Nat,i < 3→hasS (sideF f (i:Int)) g=false:=fun i hi=>by
      cases hx:hasS (sideF f (i:Int)) g with
      | false=>rfl
      | true =>
        obtain ⟨k,hk,e⟩:=(has_iff _ _).1 hx
        exact absurd e.symm (h i k hi hk)
    rw [show hasS (sideF f 0) g=false from hh 0 (by omega),show hasS (sideF f 1) g=false from hh 1 (by omega),show hasS (sideF f 2) g=false from hh 2 (by omega)]
    rfl
theorem face_apart {m:Mesh} {f:Face} (h:goodC m f=true):∀ i k:Nat,i < 3→k < 3→sideF f (i:Int)=sideF f (k:Int)→i=k:=by
  have key:∀ {a b:Int},gC m a b=true→a≠b:=fun {a b} h=>by
    simp only [gC,Bool.and_eq_true,Bool.not_eq_true'] at h
    simpa using h.2.2.1
  simp only [goodC,Bool.and_eq_true] at h
  have h1:=key h.1; have h2:=key h.2.1; have h3:=key h.2.2.1
  intro i k hi hk e
  have e0:=congrArg Pr.p0 e
  match i,hi,k,hk,e0 with
  | 0,_,0,_,_=>rfl
  | 1,_,1,_,_=>rfl
  | 2,_,2,_,_=>rfl
  | 0,_,1,_,e0=>exact absurd e0 h1
  | 0,_,2,_,e0=>exact absurd e0.symm h3
  | 1,_,0,_,e0=>exact absurd e0.symm h1
  | 1,_,2,_,e0=>exact absurd e0 h2
  | 2,_,0,_,e0=>exact absurd e0 h3
  | 2,_,1,_,e0=>exact absurd e0.symm h2
theorem valid_uniq {m:Mesh} (hv:validM m=true):Uniq m:=by
  simp only [validM,Bool.and_eq_true] at hv
  have h2:=hv.2
  rw [← clean_D] at h2
  simp only [cleanD,Bool.and_eq_true] at h2
  obtain ⟨g1,_,g3⟩:=cleanR_apart m _ _ h2.2
  intro h k hh hk e
  have hi:h / 3 < m.mf.length:=by omega
  have hj:k / 3 < m.mf.length:=by omega
  have e':sideF m.mf[h / 3] ((h%3:Nat):Int)=sideF m.mf[k / 3] ((k%3:Nat):Int):=by
    unfold sdN at e
    rw [getD_lt hi,getD_lt hj] at e
    exact e
  rcases Nat.lt_trichotomy (h / 3) (k / 3) with hlt | heq | hgt
  · have := List.pairwise_iff_getElem.1 g3 (h / 3) (k / 3) hi hj hlt
    exact absurd e'.symm ((same_iff _ _).1 this _ _ (by omega) (by omega))
  · have e2 : sideF m.mf[h / 3] ((h % 3 : Nat) : Int) = sideF m.mf[h / 3] ((k % 3 : Nat) : Int) := by
      rw [e']
      congr 2
      exact heq.symm
    have:=face_apart (g1 _ (List.getElem_mem hi)) _ _ (by omega) (by omega) e2
    omega
  · have := List.pairwise_iff_getElem.1 g3 (k / 3) (h / 3) hj hi hgt
    exact absurd e' ((same_iff _ _).1 this _ _ (by omega) (by omega))
def dK:B3→Nat→Bool
  | b,0=>b.d0
  | b,1=>b.d1
  | b,_=>b.d2
noncomputable def isD (dn:List B3) (h:Nat):Bool:=dK (List.getD dn (h / 3) d_b3) (h%3)
noncomputable def left (N:Nat) (dn:List B3):Nat:=(List.range (3 * N)).countP fun h => !(isD dn h)
end Go.Proofs.YtnofdcckddfooaaGreatDoor
