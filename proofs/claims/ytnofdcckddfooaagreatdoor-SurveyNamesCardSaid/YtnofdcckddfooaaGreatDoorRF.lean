/- Borders of a valid surface: the code's walk wu, and goes along just the sides that no other face has. -/
import Derived.Test.YtnofdcckddfooaaGreatDoorRC
import Derived.Test.YtnofdcckddfooaaGreatDoorVC
namespace Go.Proofs.YtnofdcckddfooaaGreatDoor
set_option linter.unusedSectionVars false
set_option linter.unusedSimpArgs false
set_option linter.unusedVariables false
set_option maxRecDepth 100000
noncomputable def sdN (m:Mesh) (h:Nat):Pr:=aD (List.getD m.mf (h / 3) ab) ((h%3:Nat):Int)
def rev (p:Pr):Pr:=⟨p.p1,p.p0⟩
def nxt (h:Nat):Nat:=3 * (h / 3)+(h%3+1)%3
theorem m7 (p:Pr):rev (rev p)=p:=rfl
theorem ld {h N:Nat} (hh:h < 3 * N):nxt h < 3 * N:=by unfold nxt; omega
theorem qO {h k:Nat} (e:nxt h=nxt k):h=k:=by unfold nxt at e; omega
def v8 (m:Mesh):Prop:=∀ h k,h < 3 * m.mf.length→k < 3 * m.mf.length→sdN m h=sdN m k→h=k
theorem pU (m:Mesh) {i:Nat} (hi:i < m.mf.length) (k:Nat) (hk:k < 3):sdN m (3 * i+k)=aD m.mf[i] (k:Int):=by
  unfold sdN
  rw [show (3 * i+k) / 3=i by omega,show (3 * i+k)%3=k by omega,aE hi]
theorem kh (p:Pr) (g:Face):cJ p g=true↔∃ k:Nat,k < 3∧aD g (k:Int)=p:=by
  unfold cJ
  simp only [Bool.or_eq_true,d6]
  constructor
  · rintro (h | h | h)
    · exact ⟨0,by omega,h.symm⟩
    · exact ⟨1,by omega,h.symm⟩
    · exact ⟨2,by omega,h.symm⟩
  · rintro ⟨k, hk, h⟩
    match k,hk,h with
    | 0,_,h=>exact .inl h.symm
    | 1,_,h=>exact .inr (.inl h.symm)
    | 2,_,h=>exact .inr (.inr h.symm)
theorem qP (m:Mesh) (p:Pr):m.mf.any (cJ p)=true↔∃ h,h < 3 * m.mf.length∧sdN m h=p:=by
  rw [List.any_eq_true]
  constructor
  · rintro ⟨g, hg, hp⟩
    obtain ⟨i,hi,rfl⟩:=List.getElem_of_mem hg
    obtain ⟨k,hk,e⟩:=(kh p _).1 hp
    exact ⟨3 * i+k,by omega,(pU m hi k hk).trans e⟩
  · rintro ⟨h, hh, e⟩
    have hi:h / 3 < m.mf.length:=by omega
    refine ⟨m.mf[h / 3],List.getElem_mem hi,(kh p _).2 ⟨h%3,by omega,?_⟩⟩
    rw [← e]
    unfold sdN
    rw [aE hi]
noncomputable def lf (m:Mesh) (h:Nat):Bool:=opn m (sdN m h)
theorem mn {m:Mesh} {h:Nat} (hc:lf m h=false):∃ k,k < 3 * m.mf.length∧sdN m k=rev (sdN m h):=by
  unfold lf opn at hc
  rw [Bool.not_eq_false'] at hc
  exact (qP m _).1 hc
theorem rM {m:Mesh} {h k:Nat} (hk:k < 3 * m.mf.length) (e:sdN m k=rev (sdN m h)):lf m h=false:=by
  unfold lf opn
  rw [Bool.not_eq_false']
  exact (qP m _).2 ⟨k,hk,e⟩
noncomputable def opp (m:Mesh) (h:Nat):Nat:=@dite _ (∃ k,k < 3 * m.mf.length∧sdN m k=rev (sdN m h)) (Classical.propDecidable _) (fun hx=>Classical.choose hx) (fun _=>h)
theorem iI {m:Mesh} {h:Nat} (hc:lf m h=false):opp m h < 3 * m.mf.length∧sdN m (opp m h)=rev (sdN m h):=by
  unfold opp
  rw [dif_pos (mn hc)]
  exact Classical.choose_spec (mn hc)
noncomputable def phi (m:Mesh) (h:Nat):Nat:=bif lf m h then h else nxt (opp m h)
noncomputable def itN (m:Mesh):Nat→Nat→Nat
  | 0,h=>h
  | k+1,h=>itN m k (phi m h)
theorem tq (m:Mesh):∀ (k h:Nat),itN m (k+1) h=phi m (itN m k h):=by
  intro k
  induction k with
  | zero=>intro h; rfl
  | succ k ih=>intro h; exact ih (phi m h)
theorem vC {m:Mesh} {h:Nat} (hh:h < 3 * m.mf.length):phi m h < 3 * m.mf.length:=by
  unfold phi
  cases hc:lf m h with
  | true=>exact hh
  | false=>exact ld (iI hc).1
theorem m8 {m:Mesh}:∀ (k h:Nat),h < 3 * m.mf.length→itN m k h < 3 * m.mf.length:=by
  intro k
  induction k with
  | zero=>intro h hh; exact hh
  | succ k ih=>intro h hh; exact ih _ (vC hh)
theorem oH:∀ (N:Nat) (l:List Nat),l.Nodup→(∀ x∈l,x < N)→l.length≤N:=by
  intro N
  induction N with
  | zero =>
    intro l _ h
    match l with
    | []=>exact Nat.le_refl _
    | x :: l=>exact absurd (h x (List.mem_cons_self ..)) (Nat.not_lt_zero _)
  | succ N ih =>
    intro l hn h
    have h1:=ih (l.erase N) (hn.erase N) fun x hx=>by
      have:=(hn.mem_erase_iff).1 hx
      have:=h x this.2
      omega
    have h2:l.length≤(l.erase N).length+1:=by
      rw [List.length_erase]
      split<;>omega
    omega
theorem wu {m : Mesh} (hU : v8 m) {e : Nat} (he : e < 3 * m.mf.length) (ho : lf m e = true) : ∃ k, k ≤ 3 * m.mf.length ∧ lf m (itN m k (nxt e)) = true := by
  refine Classical.byContradiction fun hne => ?_
  have hc:∀ k,k≤3 * m.mf.length→lf m (itN m k (nxt e))=false:=fun k hk=>by
    cases h:lf m (itN m k (nxt e)) with
    | false=>rfl
    | true=>exact absurd ⟨k,hk,h⟩ hne
  have hs:∀ k,k≤3 * m.mf.length→itN m (k+1) (nxt e)=nxt (opp m (itN m k (nxt e))):=fun k hk=>by
    rw [tq]
    unfold phi
    rw [hc k hk]
    rfl
  have hinj:∀ i j,i < j→j≤3 * m.mf.length→itN m i (nxt e)≠itN m j (nxt e):=by
    intro i
    induction i with
    | zero =>
      intro j hj hj2 heq
      obtain ⟨j,rfl⟩:∃ q,j=q+1:=⟨j - 1,by omega⟩
      rw [hs j (by omega)] at heq
      have h1:e=opp m (itN m j (nxt e)):=qO heq
      have h2:=(iI (hc j (by omega))).2
      rw [← h1] at h2
      have h3:sdN m (itN m j (nxt e))=rev (sdN m e):=by rw [h2,m7]
      rw [rM (m8 j _ (ld he)) h3] at ho
      cases ho
    | succ i ih =>
      intro j hj hj2 heq
      obtain ⟨j,rfl⟩:∃ q,j=q+1:=⟨j - 1,by omega⟩
      rw [hs j (by omega),hs i (by omega)] at heq
      have h1:=qO heq
      have h2:=(iI (hc j (by omega))).2
      have h3:=(iI (hc i (by omega))).2
      rw [← h1,h3] at h2
      have h4:sdN m (itN m i (nxt e))=sdN m (itN m j (nxt e)):=by
        have:=congrArg rev h2
        rw [m7,m7] at this
        exact this
      exact ih j (by omega) (by omega) (hU _ _ (m8 i _ (ld he)) (m8 j _ (ld he)) h4)
  have hn:((List.range (3 * m.mf.length+1)).map fun k=>itN m k (nxt e)).Nodup:=by
    unfold List.Nodup
    rw [List.pairwise_map]
    refine List.Pairwise.imp_of_mem (fun {a b} ha hb hab => ?_) List.pairwise_lt_range
    have:=List.mem_range.1 hb
    exact hinj a b hab (by omega)
  have:=oH (3 * m.mf.length) _ hn fun x hx=>by
    obtain ⟨k,_,rfl⟩:=List.mem_map.1 hx
    exact m8 k _ (ld he)
  simp only [List.length_map,List.length_range] at this
  omega
theorem m9 (m : Mesh) : ∀ (r l : List Face), dS m l r = true → (∀ f ∈ r, co m f = true) ∧ (∀ g ∈ l, ∀ f ∈ r, ci f g = false) ∧ r.Pairwise (fun g f => ci f g = false) := by
  intro r
  induction r with
  | nil=>intro l _; exact ⟨fun f hf=>(by cases hf),fun g _ f hf=>(by cases hf),.nil⟩
  | cons f r ih =>
    intro l h
    simp only [dS,Bool.and_eq_true,Bool.not_eq_true'] at h
    obtain ⟨h1,h2,h3⟩:=ih (l++[f]) h.2.2.2.2
    refine ⟨fun g hg => ?_,fun g hg k hk => ?_,?_⟩
    · rcases List.mem_cons.1 hg with rfl | hg
      · exact h.1
      · exact h1 g hg
    · rcases List.mem_cons.1 hk with rfl | hk
      · have := List.any_eq_false.1 h.2.2.1 g hg
        simpa using this
      · exact h2 g (List.mem_append_left _ hg) k hk
    · rw [List.pairwise_cons]
      exact ⟨fun k hk=>h2 f (List.mem_append_right _ (List.mem_singleton.2 rfl)) k hk,h3⟩
theorem oI (f g : Face) : ci f g = false ↔ ∀ i k : Nat, i < 3 → k < 3 → aD f (i : Int) ≠ aD g (k : Int) := by
  constructor
  · intro h i k hi hk e
    have:ci f g=true:=by
      rw [cY]
      have hh:cJ (aD f (i:Int)) g=true:=(kh _ _).2 ⟨k,hk,e.symm⟩
      match i,hi,hh with
      | 0,_,hh=>rw [show cJ (aD f 0) g=true from hh]; rfl
      | 1,_,hh=>rw [show cJ (aD f 1) g=true from hh]; simp
      | 2,_,hh=>rw [show cJ (aD f 2) g=true from hh]; simp
    rw [this] at h
    cases h
  · intro h
    rw [cY]
    have hh:∀ i:Nat,i < 3→cJ (aD f (i:Int)) g=false:=fun i hi=>by
      cases hx:cJ (aD f (i:Int)) g with
      | false=>rfl
      | true =>
        obtain ⟨k,hk,e⟩:=(kh _ _).1 hx
        exact absurd e.symm (h i k hi hk)
    rw [show cJ (aD f 0) g=false from hh 0 (by omega),show cJ (aD f 1) g=false from hh 1 (by omega),show cJ (aD f 2) g=false from hh 2 (by omega)]
    rfl
theorem pV {m:Mesh} {f:Face} (h:co m f=true):∀ i k:Nat,i < 3→k < 3→aD f (i:Int)=aD f (k:Int)→i=k:=by
  have key:∀ {a b:Int},gC m a b=true→a≠b:=fun {a b} h=>by
    simp only [gC,Bool.and_eq_true,Bool.not_eq_true'] at h
    simpa using h.2.2.1
  simp only [co,Bool.and_eq_true] at h
  have h1:=key h.1; have h2:=key h.2.1; have h3:=key h.2.2.1
  intro i k hi hk e
  have e0:=congrArg Pr.p0 e
  match i,hi,k,hk,e0 with
  | 0,_,0,_,_=>rfl
  | 1,_,1,_,_=>rfl
  | 2,_,2,_,_=>rfl
  | 0,_,1,_,e0=>exact absurd e0 h1
  | 0,_,2,_,e0=>exact absurd e0.symm h3
  | 1,_,0,_,e0=>exact absurd e0.symm h1
  | 1,_,2,_,e0=>exact absurd e0 h2
  | 2,_,0,_,e0=>exact absurd e0 h3
  | 2,_,1,_,e0=>exact absurd e0.symm h2
theorem pW {m:Mesh} (hv:am m=true):v8 m:=by
  simp only [am,Bool.and_eq_true] at hv
  have h2:=hv.2
  rw [← iE] at h2
  simp only [et,Bool.and_eq_true] at h2
  obtain ⟨g1,_,g3⟩:=m9 m _ _ h2.2
  intro h k hh hk e
  have hi:h / 3 < m.mf.length:=by omega
  have hj:k / 3 < m.mf.length:=by omega
  have e':aD m.mf[h / 3] ((h%3:Nat):Int)=aD m.mf[k / 3] ((k%3:Nat):Int):=by
    unfold sdN at e
    rw [aE hi,aE hj] at e
    exact e
  rcases Nat.lt_trichotomy (h / 3) (k / 3) with hlt | heq | hgt
  · have := List.pairwise_iff_getElem.1 g3 (h / 3) (k / 3) hi hj hlt
    exact absurd e'.symm ((oI _ _).1 this _ _ (by omega) (by omega))
  · have e2 : aD m.mf[h / 3] ((h % 3 : Nat) : Int) = aD m.mf[h / 3] ((k % 3 : Nat) : Int) := by
      rw [e']
      congr 2
      exact heq.symm
    have:=pV (g1 _ (List.getElem_mem hi)) _ _ (by omega) (by omega) e2
    omega
  · have := List.pairwise_iff_getElem.1 g3 (k / 3) (h / 3) hj hi hgt
    exact absurd e' ((oI _ _).1 this _ _ (by omega) (by omega))
def dK:B3→Nat→Bool
  | b,0=>b.d0
  | b,1=>b.d1
  | b,_=>b.d2
noncomputable def isD (dn:List B3) (h:Nat):Bool:=dK (List.getD dn (h / 3) wm) (h%3)
noncomputable def left (N:Nat) (dn:List B3):Nat:=(List.range (3 * N)).countP fun h => !(isD dn h)
end Go.Proofs.YtnofdcckddfooaaGreatDoor
