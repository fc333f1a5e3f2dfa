/- The critical chain. -/
import Derived.Test.YthdklallcljhlaaVM
import Derived.Test.YthdklallcljhlaaRV
import Derived.Test.YthdklallcljhlaaVS
namespace Go.Proofs.Ythdklallcljhlaa
set_option linter.unusedSectionVars false
set_option linter.unusedSimpArgs false
set_option linter.unusedVariables false
set_option maxRecDepth 100000
noncomputable def sR (l:List Work) (c:List Int):Int:=List.foldl (fun s a=>s+(List.getD l (Int.toNat a) aa).wh) 0 c
structure CP (l:List Work) (c:List Int) (a:Nat):Prop where
  ne:0 < c.length
  last:List.getD c (c.length - 1) d_int=(a:Int)
  ok:∀ j:Nat,j < c.length→∃ q:Nat,List.getD c j d_int=(q:Int)∧q < l.length∧(0 < j→List.any (List.getD l q aa).wa (bc (List.getD c (j - 1) d_int))=true)∧(j=0→(List.getD l q aa).wa=[])
  sum:sR l c=dh l (a:Int)
end Go.Proofs.Ythdklallcljhlaa

namespace Go.Proofs.Ythdklallcljhlaa
set_option linter.unusedSectionVars false
set_option linter.unusedSimpArgs false
set_option linter.unusedVariables false
set_option maxRecDepth 100000
theorem r7 {n crews:Int} {dup:Bool} {w:Work} (h:wk n crews dup w=true):(0≤w.wd∧w.wd≤100000)∧(0≤w.wp∧w.wp≤1000000):=by
  simp only [wk,Bool.and_eq_true] at h
  obtain ⟨_,_,_,_,_,_,_,⟨a,b⟩,c,d⟩:=h
  exact ⟨⟨b7 a,b7 b⟩,b7 c,b7 d⟩
theorem ib {n crews:Int}:∀ {l seen:List Work},bH n crews seen l=true→∀ w∈l,(0≤w.wd∧w.wd≤100000)∧(0≤w.wp∧w.wp≤1000000):=by
  intro l
  induction l with
  | nil=>intro seen _ w hw; cases hw
  | cons x l ih =>
    intro seen h w hw
    simp only [bH,Bool.and_eq_true] at h
    rcases List.mem_cons.1 hw with rfl | hw
    · exact r7 h.1
    · exact ih h.2 w hw
theorem gL {w:Work} {e:Int} (hp:0≤w.wp∧w.wp≤1000000) (hd:0≤w.wd∧w.wd≤100000) (he:0≤e∧e≤2000000):∃ x:Int,ba w e=w.wp * x∧0≤x∧x≤2000000∧e - w.wd≤x∧(x=0∨x=e - w.wd)∧0≤w.wp * x∧w.wp * x≤2000000000000:=by
  have hw:IntKind.wrap .i64 (e - w.wd)=e - w.wd:=bU (by omega) (by omega)
  have key:∀ x:Int,0≤x→x≤2000000→0≤w.wp * x∧w.wp * x≤2000000000000:=fun x h1 h2=>by
    refine ⟨Int.mul_nonneg hp.1 h1,?_⟩
    have:=Int.mul_le_mul hp.2 h2 h1 (by omega:(0:Int)≤1000000)
    omega
  unfold ba
  rw [hw]
  by_cases h:0 < e - w.wd
  · rw [bw h, cond_true]
    obtain ⟨k1,k2⟩:=key (e - w.wd) (by omega) (by omega)
    exact ⟨_,bU (by omega) (by omega),by omega,by omega,by omega,.inr rfl,k1,k2⟩
  · rw [bp h, cond_false]
    obtain ⟨k1,k2⟩:=key 0 (by omega) (by omega)
    exact ⟨_,bU (by omega) (by omega),by omega,by omega,by omega,.inl rfl,k1,k2⟩
end Go.Proofs.Ythdklallcljhlaa

namespace Go.Proofs.Ythdklallcljhlaa
set_option linter.unusedSectionVars false
set_option linter.unusedSimpArgs false
set_option linter.unusedVariables false
set_option maxRecDepth 100000
def Conf (l:List Work) (p:List Slot) (i k:Nat):Prop:=k≠i∧(List.getD p k d_slot).ss < (List.getD p i d_slot).ss+(List.getD l i aa).wh∧(List.getD p i d_slot).ss < (List.getD p k d_slot).ss+(List.getD l k aa).wh∧((List.getD p k d_slot).sc=(List.getD p i d_slot).sc∨((List.getD l i aa).ws≠[]∧(List.getD l k aa).ws=(List.getD l i aa).ws))
structure Base (l:List Work) (p:List Slot) (i:Nat):Prop where
  sw:(List.getD p i d_slot).sw=(i:Int)
  cr:List.any (List.getD l i aa).wc (bc (List.getD p i d_slot).sc)=true
  s0:0≤(List.getD p i d_slot).ss
  s9:(List.getD p i d_slot).ss≤1000000
  ord:∀ a∈(List.getD l i aa).wa,(List.getD p (Int.toNat a) d_slot).ss≤(List.getD p i d_slot).ss - (List.getD l (Int.toNat a) aa).wh
theorem qh {l:List Work} {p:List Slot} {i k:Nat}:ml l p i k=true↔k≠i∧(List.getD p k d_slot).ss < (List.getD p i d_slot).ss+(List.getD l i aa).wh∧(List.getD p i d_slot).ss < (List.getD p k d_slot).ss+(List.getD l k aa).wh:=by
  unfold ml
  simp only [Bool.and_eq_true,Bool.not_eq_true',beq_eq_false_iff_ne]
  constructor
  · rintro ⟨h1, h2, h3⟩
    have h2:=qW h2
    have h3:=qW h3
    exact ⟨fun e=>h1 (by rw [e]),by omega,by omega⟩
  · rintro ⟨h1, h2, h3⟩
    exact ⟨fun e=>h1 (Int.ofNat.inj e),gC (by omega),gC (by omega)⟩
theorem conf_iff {l:List Work} {p:List Slot} {i k:Nat}:(jI l p i k=true∨jJ l p i k=true)↔Conf l p i k:=by
  unfold jI jJ Conf
  simp only [Bool.and_eq_true,Bool.not_eq_true',qh,beq_iff_eq,beq_eq_false_iff_ne]
  constructor
  · rintro (⟨⟨h1, h2, h3⟩, h4⟩ | ⟨⟨h1, h2, h3⟩, h4, h5⟩)
    · exact ⟨h1,h2,h3,.inl h4⟩
    · exact ⟨h1,h2,h3,.inr ⟨h4,h5⟩⟩
  · rintro ⟨h1, h2, h3, h4 | ⟨h4, h5⟩⟩
    · exact .inl ⟨⟨h1,h2,h3⟩,h4⟩
    · exact .inr ⟨⟨h1,h2,h3⟩,h4,h5⟩
theorem lh {f:Nat→Bool}:∀ (n k:Nat),dY f n k=false↔∀ j,k≤j→j < k+n→f j=false:=by
  intro n
  induction n with
  | zero=>intro k; exact ⟨fun _ j h1 h2=>by omega,fun _=>rfl⟩
  | succ n ih =>
    intro k
    simp only [dY,Bool.or_eq_false_iff,ih]
    constructor
    · rintro ⟨h1, h2⟩ j hj1 hj2
      by_cases e:j=k
      · subst e; exact h1
      · exact h2 j (by omega) (by omega)
    · intro h
      exact ⟨h k (Nat.le_refl _) (by omega),fun j h1 h2=>h j (by omega) (by omega)⟩
theorem mr (a b c d e f:Bool):(bif a then (25:Int) else bif b then 11 else bif c then 2 else bif d then 17 else bif e then 10 else bif f then 15 else 0)=0↔a=false∧b=false∧c=false∧d=false∧e=false∧f=false:=by
  cases a<;>cases b<;>cases c<;>cases d<;>cases e<;>cases f<;>simp
theorem ms {l:List Work} {p:List Slot} {i:Nat}:(((List.getD p i d_slot).sw != (i:Int))=false∧(!(List.any (List.getD l i aa).wc (bc (List.getD p i d_slot).sc)))=false∧(!(ile 0 (List.getD p i d_slot).ss&&ile (List.getD p i d_slot).ss 1000000))=false∧List.any (List.getD l i aa).wa (iJ l p i)=false)↔Base l p i:=by
  simp only [Bool.not_eq_false',Bool.and_eq_true,bne_eq_false_iff_eq]
  constructor
  · rintro ⟨h1, h2, ⟨h3, h4⟩, h5⟩
    refine ⟨h1,h2,b7 h3,b7 h4,fun a ha => ?_⟩
    have h6:iJ l p i a=false:=by simpa using List.any_eq_false.1 h5 a ha
    have:=iI h6
    omega
  · rintro ⟨h1, h2, h3, h4, h5⟩
    refine ⟨h1,h2,⟨bD h3,bD h4⟩,List.any_eq_false.2 fun a ha => ?_⟩
    have h6:iJ l p i a=false:=bp (by have:=h5 a ha; omega)
    simp [h6]
theorem faultN_iff {l:List Work} {p:List Slot} {i:Nat}:fY l p i=0↔Base l p i∧∀ k,k < l.length→¬ Conf l p i k:=by
  unfold fY
  rw [mr,← ms,lh,lh]
  constructor
  · rintro ⟨h1, h2, h3, h4, h5, h6⟩
    refine ⟨⟨h1,h2,h3,h4⟩,fun k hk hc => ?_⟩
    rcases conf_iff.2 hc with h | h
    · rw [h5 k (by omega) (by omega)] at h; cases h
    · rw [h6 k (by omega) (by omega)] at h; cases h
  · rintro ⟨⟨h1, h2, h3, h4⟩, h5⟩
    refine ⟨h1,h2,h3,h4,fun j _ hj => ?_,fun j _ hj => ?_⟩
    · cases h : jI l p i j with
      | false=>rfl
      | true=>exact absurd (conf_iff.1 (.inl h)) (h5 j (by omega))
    · cases h : jJ l p i j with
      | false=>rfl
      | true=>exact absurd (conf_iff.1 (.inr h)) (h5 j (by omega))
theorem faultE_iff {l : List Work} {p : List Slot} {dn : List Bool} {i : Nat} : ci l p dn i = 0 ↔ Base l p i ∧ ∀ k, k < l.length → List.getD dn k d_bool = true → ¬ Conf l p i k := by
  unfold ci
  rw [mr,← ms,lh,lh]
  constructor
  · rintro ⟨h1, h2, h3, h4, h5, h6⟩
    refine ⟨⟨h1,h2,h3,h4⟩,fun k hk hd hc => ?_⟩
    have g5:=h5 k (by omega) (by omega)
    have g6:=h6 k (by omega) (by omega)
    unfold fM at g5
    unfold fN at g6
    rw [hd,Bool.true_and] at g5 g6
    rcases conf_iff.2 hc with h | h
    · rw [g5] at h; cases h
    · rw [g6] at h; cases h
  · rintro ⟨⟨h1, h2, h3, h4⟩, h5⟩
    refine ⟨h1,h2,h3,h4,fun j _ hj => ?_,fun j _ hj => ?_⟩
    · unfold fM
      cases hd:List.getD dn j d_bool with
      | false=>rfl
      | true =>
        cases h:jI l p i j with
        | false=>rfl
        | true=>exact absurd (conf_iff.1 (.inl h)) (h5 j (by omega) hd)
    · unfold fN
      cases hd:List.getD dn j d_bool with
      | false=>rfl
      | true =>
        cases h:jJ l p i j with
        | false=>rfl
        | true=>exact absurd (conf_iff.1 (.inr h)) (h5 j (by omega) hd)
theorem Conf.symm {l:List Work} {p:List Slot} {i k:Nat} (h:Conf l p i k):Conf l p k i:=by
  obtain ⟨h1,h2,h3,h4⟩:=h
  refine ⟨Ne.symm h1,h3,h2,?_⟩
  rcases h4 with h4 | ⟨h4,h5⟩
  · exact .inl h4.symm
  · exact .inr ⟨by rw [h5]; exact h4,h5.symm⟩
theorem Conf.congr {l:List Work} {p p':List Slot} {i k:Nat} (hi:List.getD p' i d_slot=List.getD p i d_slot) (hk:List.getD p' k d_slot=List.getD p k d_slot) (h:Conf l p i k):Conf l p' i k:=by
  unfold Conf at *
  rw [hi,hk]
  exact h
def cY (l : List Work) (sl : List Slot) (dn : List Bool) (i : Nat) (c t : Int) : Prop :=
  t < 0 ∨ (∃ u : Nat, (u : Int) ∈ (List.getD l i aa).wa ∧ u < l.length ∧ List.getD dn u d_bool = true ∧ t < (List.getD sl u d_slot).ss + (List.getD l u aa).wh) ∨
    ∃ j:Nat,j < l.length∧j≠i∧List.getD dn j d_bool=true∧(List.getD sl j d_slot).ss < t+(List.getD l i aa).wh∧t < (List.getD sl j d_slot).ss+(List.getD l j aa).wh∧((List.getD sl j d_slot).sc=c∨((List.getD l i aa).ws≠[]∧(List.getD l j aa).ws=(List.getD l i aa).ws))
structure GK (l:List Work) (sl:List Slot) (dn:List Bool) (T:Int) (k:Nat):Prop where
  sw:(List.getD sl k d_slot).sw=(k:Int)
  cr:List.any (List.getD l k aa).wc (bc (List.getD sl k d_slot).sc)=true
  s0:0≤(List.getD sl k d_slot).ss
  s9:(List.getD sl k d_slot).ss+(List.getD l k aa).wh≤T
  od:∀ a∈(List.getD l k aa).wa,∃ u:Nat,a=(u:Int)∧u < l.length∧List.getD dn u d_bool=true∧(List.getD sl u d_slot).ss+(List.getD l u aa).wh≤(List.getD sl k d_slot).ss
  cf:∀ j,j < l.length→List.getD dn j d_bool=true→¬ Conf l sl k j
  mn:∀ t,t < (List.getD sl k d_slot).ss→cY l sl dn k (List.getD sl k d_slot).sc t
def GJ (l:List Work) (sl:List Slot) (dn:List Bool) (T:Int):Prop:=∀ k,k < l.length→List.getD dn k d_bool=true→GK l sl dn T k
theorem mt : ∀ H : List Int, H ≠ [] → ∃ M ∈ H, ∀ h ∈ H, h ≤ M := by
  intro H
  induction H with
  | nil=>intro h; exact absurd rfl h
  | cons x H ih =>
    intro _
    by_cases e:H=[]
    · subst e
      exact ⟨x,List.mem_cons_self ..,fun h hh=>by rcases List.mem_cons.1 hh with rfl | hh; exact Int.le_refl _; cases hh⟩
    · obtain ⟨M, hM, hx⟩ := ih e
      by_cases hc:x≤M
      · refine ⟨M, List.mem_cons_of_mem _ hM, fun h hh => ?_⟩
        rcases List.mem_cons.1 hh with rfl | hh
        · exact hc
        · exact hx h hh
      · refine ⟨x, List.mem_cons_self .., fun h hh => ?_⟩
        rcases List.mem_cons.1 hh with rfl | hh
        · exact Int.le_refl _
        · have:=hx h hh; omega
theorem qi (l : List Work) (sl : List Slot) (dn : List Bool) (q : Nat) (c : Int) : ∀ (H : List Int) (d : Int), H.Pairwise (fun a b => decide (a ≤ b) = true) → (∃ h ∈ H, ci l (sl.set q ⟨(q : Int), c, h⟩) dn q = 0) →
    ci l (sl.set q ⟨(q:Int),c,jN l sl dn q c H d⟩) dn q=0∧jN l sl dn q c H d∈H∧∀ h∈H,h < jN l sl dn q c H d→ci l (sl.set q ⟨(q:Int),c,h⟩) dn q≠0:=by
  intro H
  induction H with
  | nil=>rintro d _ ⟨h,hh,_⟩; cases hh
  | cons x H ih =>
    rintro d hp ⟨h,hh,hf⟩
    simp only [jN]
    rw [List.pairwise_cons] at hp
    cases hb:(ci l (sl.set q ⟨(q:Int),c,x⟩) dn q == (0:Int)) with
    | true =>
      rw [cond_true]
      refine ⟨beq_iff_eq.1 hb,List.mem_cons_self ..,fun y hy hlt => ?_⟩
      rcases List.mem_cons.1 hy with rfl | hy
      · omega
      · have:=of_decide_eq_true (hp.1 y hy); omega
    | false =>
      rw [cond_false]
      have hne:=beq_eq_false_iff_ne.1 hb
      have hex:∃ h∈H,ci l (sl.set q ⟨(q:Int),c,h⟩) dn q=0:=by
        rcases List.mem_cons.1 hh with rfl | hh
        · exact absurd hf hne
        · exact ⟨h,hh,hf⟩
      obtain ⟨a1,a2,a3⟩:=ih x hp.2 hex
      refine ⟨a1,List.mem_cons_of_mem _ a2,fun y hy hlt => ?_⟩
      rcases List.mem_cons.1 hy with rfl | hy
      · exact hne
      · exact a3 y hy hlt
theorem rc (l : List Work) (sl : List Slot) (dn : List Bool) (f : Int) (h : Int) : ∀ (n k : Nat) (acc : List Int), h ∈ jM l sl dn f n k acc ↔ h ∈ acc ∨ ∃ j, k ≤ j ∧ j < k + n ∧ List.getD dn j d_bool = true ∧ f < aE l (List.getD sl j d_slot) ∧ h = aE l (List.getD sl j d_slot) := by
  intro n
  induction n with
  | zero =>
    intro k acc
    exact ⟨.inl,fun h=>h.elim id fun ⟨j,h1,h2,_⟩=>by omega⟩
  | succ n ih =>
    intro k acc
    simp only [jM]
    rw [ih]
    constructor
    · rintro (h1 | ⟨j, h1, h2, h3⟩)
      · cases hb : (List.getD dn k d_bool && ilt f (aE l (List.getD sl k d_slot))) with
        | false=>rw [hb,cond_false] at h1; exact .inl h1
        | true =>
          rw [hb,cond_true] at h1
          rcases List.mem_append.1 h1 with h1 | h1
          · exact .inl h1
          · simp only [Bool.and_eq_true] at hb
            exact .inr ⟨k,Nat.le_refl _,by omega,hb.1,dJ hb.2,List.mem_singleton.1 h1⟩
      · exact .inr ⟨j,by omega,by omega,h3⟩
    · rintro (h1 | ⟨j, h1, h2, h3, h4, h5⟩)
      · refine .inl ?_
        cases (List.getD dn k d_bool&&ilt f (aE l (List.getD sl k d_slot)))
        · exact h1
        · exact List.mem_append_left _ h1
      · by_cases e : j = k
        · subst e
          refine .inl ?_
          rw [h3,bw h4]
          exact List.mem_append_right _ (List.mem_singleton.2 h5)
        · exact .inr ⟨j,by omega,by omega,h3,h4,h5⟩
theorem gM {l : List Work} {sl : List Slot} {dn : List Bool} {q : Nat} {T c : Int} (hS : SS l sl dn q) (hJ : GJ l sl dn T) (hT0 : 0 ≤ T) (hT9 : T ≤ 100000) (hc : List.any (List.getD l q aa).wc (bc c) = true) :
    ∃ v:Int,lg l sl dn q c=v∧0≤v∧v≤T∧ci l (sl.set q ⟨(q:Int),c,v⟩) dn q=0∧∀ t,t < v→cY l sl dn q c t:=by
  have hq:=hS.ff.hi
  have hqs:q < sl.length:=by rw [hS.ff.lp]; exact hq
  have hwh:=hS.ff.wh
  have hend:∀ k,k < l.length→List.getD dn k d_bool=true→aE l (List.getD sl k d_slot)=(List.getD sl k d_slot).ss+(List.getD l k aa).wh∧(List.getD sl k d_slot).ss+(List.getD l k aa).wh≤T∧0≤(List.getD sl k d_slot).ss:=fun k hk hd=>by
    have hK:=hJ k hk hd
    have h1:=hwh k hk
    have h2:=hK.s9
    have h3:=hK.s0
    refine ⟨?_,h2,h3⟩
    unfold aE
    rw [hK.sw,ac]
    exact bU (by omega) (by omega)
  obtain ⟨f,hf⟩:∃ f,f=cU l sl q:=⟨_,rfl⟩
  have hfge:∀ u:Nat,(u:Int)∈(List.getD l q aa).wa→u < l.length→List.getD dn u d_bool=true→(List.getD sl u d_slot).ss+(List.getD l u aa).wh≤f:=fun u hu hul hd=>by
    have:=(iQ (fun a=>aE l (List.getD sl (Int.toNat a) d_slot)) (List.getD l q aa).wa 0).2 _ hu
    rw [ac,(hend u hul hd).1] at this
    rw [hf]
    exact this
  have hf0:0≤f:=by rw [hf]; exact (iQ (fun a=>aE l (List.getD sl (Int.toNat a) d_slot)) (List.getD l q aa).wa 0).1
  have hfle:∀ m:Int,0≤m→(∀ u:Nat,(u:Int)∈(List.getD l q aa).wa→u < l.length→List.getD dn u d_bool=true→(List.getD sl u d_slot).ss+(List.getD l u aa).wh≤m)→f≤m:=fun m hm h=>by
    rw [hf]
    refine nV (fun a=>aE l (List.getD sl (Int.toNat a) d_slot)) _ 0 hm fun a ha => ?_
    obtain ⟨u,rfl,hul,hd,_⟩:=hS.wd a ha
    rw [ac,(hend u hul hd).1]
    exact h u ha hul hd
  have hfT:f≤T:=hfle T hT0 fun u _ hul hd=>(hend u hul hd).2.1
  obtain ⟨H,hH⟩:∃ H,H=fe l sl dn q:=⟨_,rfl⟩
  have hmem:∀ h,h∈H↔h=f∨∃ j,j < l.length∧List.getD dn j d_bool=true∧f < (List.getD sl j d_slot).ss+(List.getD l j aa).wh∧h=(List.getD sl j d_slot).ss+(List.getD l j aa).wh:=fun h=>by
    rw [hH]
    unfold fe sortI
    rw [List.mem_mergeSort,← hf,rc,List.mem_singleton]
    constructor
    · rintro (h1 | ⟨j, _, h2, h3, h4, h5⟩)
      · exact .inl h1
      · rw [(hend j (by omega) h3).1] at h4 h5
        exact .inr ⟨j,by omega,h3,h4,h5⟩
    · rintro (h1 | ⟨j, h2, h3, h4, h5⟩)
      · exact .inl h1
      · refine .inr ⟨j, by omega, by omega, h3, ?_⟩
        rw [(hend j h2 h3).1]
        exact ⟨h4,h5⟩
  have hsort:H.Pairwise (fun a b=>decide (a≤b)=true):=by
    rw [hH]
    unfold fe sortI
    refine List.pairwise_mergeSort (fun a b c h1 h2 => ?_) (fun a b => ?_) _
    · have:=of_decide_eq_true h1; have:=of_decide_eq_true h2; exact decide_eq_true (by omega)
    · by_cases e : a ≤ b
      · simp [e]
      · simp [show b≤a by omega]
  have hfH:f∈H:=(hmem f).2 (.inl rfl)
  have hge:∀ h∈H,f≤h∧h≤T:=fun h hh=>by
    rcases (hmem h).1 hh with rfl | ⟨j,h1,h2,h3,rfl⟩
    · exact ⟨Int.le_refl _,hfT⟩
    · exact ⟨by omega,(hend j h1 h2).2.1⟩
  have gq:∀ h,List.getD (sl.set q ⟨(q:Int),c,h⟩) q d_slot=⟨(q:Int),c,h⟩:=fun h=>by rw [aX _ _ _ _ hqs,if_pos rfl]
  have gk:∀ h k,k≠q→List.getD (sl.set q ⟨(q:Int),c,h⟩) k d_slot=List.getD sl k d_slot:=fun h k hk=>by rw [aX _ _ _ _ hqs,if_neg (Ne.symm hk)]
  have hz:∀ h,f≤h→h≤T→(∀ j,j < l.length→j≠q→List.getD dn j d_bool=true→(List.getD sl j d_slot).ss < h+(List.getD l q aa).wh→h < (List.getD sl j d_slot).ss+(List.getD l j aa).wh→((List.getD sl j d_slot).sc=c∨((List.getD l q aa).ws≠[]∧(List.getD l j aa).ws=(List.getD l q aa).ws))→False)→ci l (sl.set q ⟨(q:Int),c,h⟩) dn q=0:=fun h h1 h2 h3=>by
    refine faultE_iff.2 ⟨⟨by rw [gq],by rw [gq]; exact hc,by rw [gq]; show 0≤h; omega,by rw [gq]; show h≤1000000; omega,fun a ha => ?_⟩,fun k hk hd hcf => ?_⟩
    · obtain ⟨u, rfl, hul, hd, hne⟩ := hS.wd a ha
      rw [ac,gk _ _ hne,gq]
      have:=hfge u ha hul hd
      show _≤h - _
      omega
    · obtain ⟨c1, c2, c3, c4⟩ := hcf
      rw [gk _ _ c1,gq] at c2 c3 c4
      exact h3 k hk c1 hd c2 c3 c4
  have hex:∃ h∈H,ci l (sl.set q ⟨(q:Int),c,h⟩) dn q=0:=by
    obtain ⟨M,hM,hmax⟩:=mt H (List.ne_nil_of_mem hfH)
    refine ⟨M,hM,hz M (hge M hM).1 (hge M hM).2 fun j h1 h2 h3 h4 h5 _ => ?_⟩
    by_cases e:f < (List.getD sl j d_slot).ss+(List.getD l j aa).wh
    · have := hmax _ ((hmem _).2 (.inr ⟨j, h1, h3, e, rfl⟩))
      omega
    · have := hmax f hfH
      omega
  obtain ⟨a1,a2,a3⟩:=qi l sl dn q c H 0 hsort hex
  have hv:lg l sl dn q c=jN l sl dn q c H 0:=by rw [hH]; rfl
  generalize jN l sl dn q c H 0=v at a1 a2 a3 hv
  have hvb:=hge v a2
  refine ⟨v,hv,by omega,hvb.2,a1,fun t ht => ?_⟩
  by_cases h0:t < 0
  · exact .inl h0
  by_cases hb:cY l sl dn q c t
  · exact hb
  exfalso
  have hno:∀ P,¬ cY l sl dn q c t→(P→cY l sl dn q c t)→¬ P:=fun P h1 h2 h3=>h1 (h2 h3)
  have hft:f≤t:=hfle t (by omega) fun u hu hul hd=>by
    by_cases e:(List.getD sl u d_slot).ss+(List.getD l u aa).wh≤t
    · exact e
    · exact absurd (.inr (.inl ⟨u,hu,hul,hd,by omega⟩)) hb
  obtain ⟨c0,hc0,hmax⟩:=mt (H.filter fun h=>decide (h≤t)) (List.ne_nil_of_mem (List.mem_filter.2 ⟨hfH,decide_eq_true hft⟩))
  rw [List.mem_filter] at hc0
  have hc0t:c0≤t:=of_decide_eq_true hc0.2
  have hcb:=hge c0 hc0.1
  refine a3 c0 hc0.1 (by omega) (hz c0 hcb.1 hcb.2 fun j h1 h2 h3 h4 h5 h6 => ?_)
  by_cases e:(List.getD sl j d_slot).ss+(List.getD l j aa).wh≤t
  · have := hmax _ (List.mem_filter.2 ⟨(hmem _).2 (.inr ⟨j, h1, h3, by omega, rfl⟩), decide_eq_true e⟩)
    omega
  · exact hb (.inr (.inr ⟨j,h1,h2,h3,by omega,by omega,h6⟩))
theorem rd (l:List Work) (sl:List Slot) (dn:List Bool) (nx:Int):∀ (xs:List Int) (m:Int),oX l sl dn nx xs m=m∨oX l sl dn nx xs m∈xs:=by
  intro xs
  induction xs with
  | nil=>intro m; exact .inl rfl
  | cons x xs ih =>
    intro m
    simp only [oX]
    cases ilt (sx (aC l sl dn nx x) (aC l sl dn nx m)) 0 with
    | true =>
      rw [cond_true]
      rcases ih x with h | h
      · rw [h]; exact .inr (List.mem_cons_self ..)
      · exact .inr (List.mem_cons_of_mem _ h)
    | false =>
      rw [cond_false]
      rcases ih m with h | h
      · exact .inl h
      · exact .inr (List.mem_cons_of_mem _ h)
theorem qj {l:List Work} {sl:List Slot} {dn:List Bool} {nx:Int} {xs:List Int} (h:0 < xs.length):nn l sl dn nx xs∈xs:=by
  unfold nn
  rcases rd l sl dn nx (xs.drop 1) (List.getD xs 0 d_int) with e | e
  · rw [e,al h]; exact List.getElem_mem _
  · exact List.mem_of_mem_drop e
theorem bN (dn:List Bool) (i j:Nat) (hi:i < dn.length):List.getD (dn.set i true) j d_bool=if i=j then true else List.getD dn j d_bool:=by
  rw [gF dn i j hi]
  by_cases e:i=j
  · subst e; rw [Nat.beq_refl,if_pos rfl]; rfl
  · rw [ai e,if_neg e]; rfl
theorem li {l : List Work} {sl : List Slot} {dn : List Bool} {q : Nat} {T c v : Int} (hS : SS l sl dn q) (hJ : GJ l sl dn T) (hc : List.any (List.getD l q aa).wc (bc c) = true) (hv0 : 0 ≤ v) (hvT : v ≤ T) (hT9 : T ≤ 100000) (hF : ci l (sl.set q ⟨(q : Int), c, v⟩) dn q = 0) (hB : ∀ t, t < v → cY l sl dn q c t) :
    GJ l (sl.set q ⟨(q:Int),c,v⟩) (dn.set q true) (T+1000):=by
  have hq:=hS.ff.hi
  have hqs:q < sl.length:=by rw [hS.ff.lp]; exact hq
  have hqd:q < dn.length:=by rw [hS.dl]; exact hq
  have gq:List.getD (sl.set q ⟨(q:Int),c,v⟩) q d_slot=⟨(q:Int),c,v⟩:=by rw [aX _ _ _ _ hqs,if_pos rfl]
  have gk:∀ k,k≠q→List.getD (sl.set q ⟨(q:Int),c,v⟩) k d_slot=List.getD sl k d_slot:=fun k hk=>by rw [aX _ _ _ _ hqs,if_neg (Ne.symm hk)]
  have dk:∀ k,List.getD dn k d_bool=true→List.getD (dn.set q true) k d_bool=true∧k≠q:=fun k hk=>by
    have hne:k≠q:=fun e=>by rw [e,hS.dq] at hk; cases hk
    exact ⟨by rw [bN _ _ _ hqd,if_neg (Ne.symm hne)]; exact hk,hne⟩
  have dk':∀ k,List.getD (dn.set q true) k d_bool=true→k≠q→List.getD dn k d_bool=true:=fun k hk hne=>by
    rw [bN _ _ _ hqd,if_neg (Ne.symm hne)] at hk
    exact hk
  have hbl:∀ (i:Nat) (c' t:Int),cY l sl dn i c' t→cY l (sl.set q ⟨(q:Int),c,v⟩) (dn.set q true) i c' t:=fun i c' t h=>by
    rcases h with h | ⟨u,h1,h2,h3,h4⟩ | ⟨j,h1,h2,h3,h4⟩
    · exact .inl h
    · obtain ⟨g1, g2⟩ := dk u h3
      exact .inr (.inl ⟨u,h1,h2,g1,by rw [gk u g2]; exact h4⟩)
    · obtain ⟨g1, g2⟩ := dk j h3
      exact .inr (.inr ⟨j,h1,h2,g1,by rw [gk j g2]; exact h4⟩)
  obtain ⟨hBa,hCf⟩:=faultE_iff.1 hF
  intro k hk hd
  by_cases e:k=q
  · subst e
    refine ⟨by rw [gq],by rw [gq]; exact hc,by rw [gq]; exact hv0,by rw [gq]; have:=hS.ff.wh k hq; show v+_≤_; omega,fun a ha => ?_,fun j hj hdj hcf => ?_,fun t ht => ?_⟩
    · obtain ⟨u, rfl, hul, hdu, hne⟩ := hS.wd a ha
      have:=hBa.ord _ ha
      rw [ac,gk u hne,gq] at this
      refine ⟨u,rfl,hul,(dk u hdu).1,?_⟩
      rw [gk u hne,gq]
      show _≤v
      have h:(List.getD sl u d_slot).ss≤v - (List.getD l u aa).wh:=this
      omega
    · exact hCf j hj (dk' j hdj hcf.1) hcf
    · rw [gq] at ht ⊢
      exact hbl _ _ _ (hB t ht)
  · have hK := hJ k hk (dk' k hd e)
    refine ⟨by rw [gk k e]; exact hK.sw,by rw [gk k e]; exact hK.cr,by rw [gk k e]; exact hK.s0,by rw [gk k e]; have:=hK.s9; omega,fun a ha => ?_,fun j hj hdj hcf => ?_,fun t ht => ?_⟩
    · obtain ⟨u, rfl, hul, hdu, hle⟩ := hK.od a ha
      obtain ⟨g1,g2⟩:=dk u hdu
      exact ⟨u,rfl,hul,g1,by rw [gk u g2,gk k e]; exact hle⟩
    · by_cases ej : j = q
      · subst ej
        exact hCf k hk (dk' k hd e) hcf.symm
      · exact hK.cf j hj (dk' j hdj ej) (Conf.congr (p:=sl.set q ⟨(q:Int),c,v⟩) (gk k e).symm (gk j ej).symm hcf)
    · rw [gk k e] at ht ⊢
      exact hbl _ _ _ (hK.mn t ht)
theorem n3 {l:List Work} {sl:List Slot} {dn:List Bool} {T T':Int} (h:T≤T') (hJ:GJ l sl dn T):GJ l sl dn T':=fun k hk hd=>by
  have hK:=hJ k hk hd
  exact ⟨hK.sw,hK.cr,hK.s0,by have:=hK.s9; omega,hK.od,hK.cf,hK.mn⟩
theorem oZ {l:List Work} {crews:Int} (hv:okV l=true) (h:aQ l crews=true):∀ (n:Nat) (sl:List Slot) (dn:List Bool) (T:Int),GS l sl dn→bh dn=n→GJ l sl dn T→0≤T→T+(n:Int) * 1000≤100000 →
    ∃ dn',GS l (dS l n sl dn) dn'∧bh dn'=0∧GJ l (dS l n sl dn) dn' (T+(n:Int) * 1000):=by
  have hV:=aR h
  intro n
  induction n with
  | zero=>intro sl dn T hg hc hJ _ _; exact ⟨dn,hg,hc,n3 (by omega) hJ⟩
  | succ n ih =>
    intro sl dn T hg hc hJ hT0 hT9
    obtain ⟨q,e,hq,hr⟩:=rb hv h hg (by omega)
    have hS:=mq hv h hg hq hr
    have hwc:0 < l[q].wc.length:=qg hV.good _ (List.getElem_mem hq)
    have hmem:=qj (l:=l) (sl:=sl) (dn:=dn) (nx:=(q:Int)) hwc
    have hca:List.any (List.getD l q aa).wc (bc (nn l sl dn (q:Int) l[q].wc))=true:=by
      rw [al hq]
      exact List.any_eq_true.2 ⟨_,hmem,by simp [bc]⟩
    obtain ⟨v,s1,s2,s3,s4,s5⟩:=gM hS hJ hT0 (by omega) hca
    obtain ⟨k1,k2⟩:=gK hg hq hr (nn l sl dn (q:Int) l[q].wc) v
    have hJ':=li hS hJ hca s2 s3 (by omega) s4 s5
    obtain ⟨dn',r1,r2,r3⟩:=ih _ _ (T+1000) k1 (by omega) hJ' (by omega) (by omega)
    have es:dS l (n+1) sl dn=dS l n (sl.set q ⟨(q:Int),nn l sl dn (q:Int) l[q].wc,v⟩) (dn.set q true):=by
      have ev:aC l sl dn (q:Int) (nn l sl dn (q:Int) l[q].wc)=v:=s1
      simp only [dS,rB,qe]
      rw [e,ac,al hq,ev]
    rw [es]
    exact ⟨dn',r1,r2,n3 (by omega) r3⟩
structure GP (l:List Work) (p:List Slot):Prop where
  len:p.length=l.length
  fn:∀ i,i < l.length→fY l p i=0
  s9:∀ i,i < l.length→(List.getD p i d_slot).ss≤100000
  mn:∀ (i:Nat) (t:Int),i < l.length→t < (List.getD p i d_slot).ss→fY l (p.set i ⟨(i:Int),(List.getD p i d_slot).sc,t⟩) i≠0
theorem o0 {l : List Work} {crews : Int} (hv : okV l = true) (h : aQ l crews = true) : GP l (iR l crews) := by
  have hV:=aR h
  have hl:=hV.len
  have hg0:GS l (List.replicate l.length d_slot) (List.replicate l.length d_bool):=⟨by simp,fun s hs=>by
    have hs':=List.eq_of_mem_replicate hs
    subst hs'
    have:0 < l.length:=by
      rcases Nat.eq_zero_or_pos l.length with e | e
      · rw [e] at hs; cases hs
      · exact e
    exact qV this,gG l⟩
  have hJ0:GJ l (List.replicate l.length d_slot) (List.replicate l.length d_bool) 0:=fun k hk hd=>by
    rw [al (by simpa using hk),List.getElem_replicate] at hd
    cases hd
  obtain ⟨dn,h1,h2,h3⟩:=oZ hv h l.length _ _ 0 hg0 (cI _) hJ0 (by omega) (by omega)
  have e:iR l crews=dS l l.length (List.replicate l.length d_slot) (List.replicate l.length d_bool):=by unfold iR; rw [h]; rfl
  rw [← e] at h1 h3
  generalize iR l crews=p at h1 h3
  have hall:∀ i,i < l.length→List.getD dn i d_bool=true:=fun i hi=>dH dn h2 i (by rw [h1.good.1]; exact hi)
  have hwh:∀ i,i < l.length→1≤(List.getD l i aa).wh:=fun i hi=>by rw [al hi]; exact (dg hV.good _ (List.getElem_mem hi)).1
  have hs9:∀ i,i < l.length→(List.getD p i d_slot).ss≤100000:=fun i hi=>by
    have:=(h3 i hi (hall i hi)).s9
    have:=hwh i hi
    omega
  refine ⟨h1.len,fun i hi => ?_,hs9,fun i t hi ht hz => ?_⟩
  · have hK := h3 i hi (hall i hi)
    refine faultN_iff.2 ⟨⟨hK.sw,hK.cr,hK.s0,by have:=hs9 i hi; omega,fun a ha => ?_⟩,fun k hk=>hK.cf k hk (hall k hk)⟩
    obtain ⟨u,rfl,_,_,hle⟩:=hK.od a ha
    rw [ac]
    omega
  · have hK := h3 i hi (hall i hi)
    have hip:i < p.length:=by rw [h1.len]; exact hi
    have gq:List.getD (p.set i ⟨(i:Int),(List.getD p i d_slot).sc,t⟩) i d_slot=⟨(i:Int),(List.getD p i d_slot).sc,t⟩:=by rw [aX _ _ _ _ hip,if_pos rfl]
    have gk:∀ k,k≠i→List.getD (p.set i ⟨(i:Int),(List.getD p i d_slot).sc,t⟩) k d_slot=List.getD p k d_slot:=fun k hk=>by rw [aX _ _ _ _ hip,if_neg (Ne.symm hk)]
    obtain ⟨hBa,hCf⟩:=faultN_iff.1 hz
    rcases hK.mn t ht with h | ⟨u,g1,g2,g3,g4⟩ | ⟨j,g1,g2,g3,g4,g5,g6⟩
    · have := hBa.s0
      rw [gq] at this
      have h':0≤t:=this
      omega
    · have := hBa.ord _ g1
      have hne:u≠i:=by
        rintro rfl
        obtain ⟨w,hw,_,_,hle⟩:=hK.od _ g1
        obtain rfl:u=w:=Int.ofNat.inj hw
        have:=hwh u hi
        omega
      rw [ac,gk u hne,gq] at this
      have h':(List.getD p u d_slot).ss≤t - (List.getD l u aa).wh:=this
      omega
    · refine hCf j g1 ⟨g2, ?_, ?_, ?_⟩
      · rw [gk j g2,gq]; exact g4
      · rw [gk j g2,gq]; exact g5
      · rw [gk j g2,gq]; exact g6
end Go.Proofs.Ythdklallcljhlaa
