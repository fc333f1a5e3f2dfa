/- The abstract run of a function's code is borne out by the model. -/
import Derived.Test.YtnofdcckddfooaaGreatDoorLMA
import Derived.Tactics
import Derived.KernelRfl
import Derived.Lib.AppendStr
import Derived.Lib.UnsafeStr
import Derived.Lib.LaidTab
import Derived.Lib.ItoaNum
import Derived.WideKeyRuns
namespace Go.Proofs.YtnofdcckddfooaaGreatDoor
set_option linter.unusedVariables false
set_option linter.unusedSectionVars false
set_option linter.unusedSimpArgs false
open Go.RowKit
section
variable {U:Type} {El:U→Type} {P:Program} {X:Ctx U El} {S S0:Nat→Prop} {ρ:Rho} {w w0:World} [DecidableEq U]
variable {a:Act} {st:St U El} {B:Bd} {r:Fin U El}
theorem Inv.join {s : Nat} {u : U} {xs : List (El u)} {l : Loc} (hX : CtxOk P X) (hi : Inv X B S0 w0 S ρ st a w) (hs : ρ s = none) (hv : ∀ ρ' : Rho, ρ' s = some l → Rel X.E S ρ' w (.ful s) (a.tmps.getD s undef)) (hb : ∀ ρ', BlkRel X.E S ρ' w B l (.rows u xs))
    (hsep:∀ j b l',ac st.h j=some b→ρ j=some l'→l'.n≠0→l.n≠0→l'.b≠l.b):Inv X B S0 w0 S (ρ.set s l) ⟨(s,.ful s) :: st.t,(s,.rows u xs) :: st.h⟩ a w:=by
  have e1:(ρ.set s l) s=some l:=by simp [Rho.set]
  have hext:∀ j l',ρ j=some l'→(ρ.set s l) j=some l':=fun j l' h=>by
    by_cases e:j=s
    · subst e; rw [hs] at h; cases h
    · simp [Rho.set,e,h]
  refine ⟨hi.defers,hi.size,hi.below,hi.hB,hi.s0,hi.s1,hi.g0,fun i => ?_,⟨fun j b hg => ?_,fun i j b b' l1 l2 hgi hgj hne hli hlj hn1 hn2 => ?_,hi.heap.lt⟩⟩
  · simp only [aK]
    by_cases e:s=i
    · subst e; rw [Nat.beq_refl]; exact hv _ e1
    · rw [ah e]; exact (hi.tmps i).mono (fun _ h=>h) (fun _ _=>rfl) hext
  · simp only [ac] at hg
    by_cases e:s=j
    · subst e; rw [Nat.beq_refl] at hg; cases hg; exact ⟨l,e1,hb _⟩
    · rw [ah e] at hg
      obtain ⟨l',h1,h2⟩:=hi.heap.get j b hg
      exact ⟨l',hext j l' h1,h2.mono (fun _ h=>h) (fun _ _=>rfl) hext (fun hn=>⟨rfl,(h2.lt hn).2.2⟩)⟩
  · simp only [ac] at hgi hgj
    by_cases ei:s=i
    · subst ei
      rw [e1] at hli; cases hli
      rw [ah hne] at hgj
      have hlj':ρ j=some l2:=by simpa [Rho.set,Ne.symm hne] using hlj
      exact (hsep j b' l2 hgj hlj' hn2 hn1).symm
    · rw [ah ei] at hgi
      have hli':ρ i=some l1:=by simpa [Rho.set,Ne.symm ei] using hli
      by_cases ej:s=j
      · subst ej
        rw [e1] at hlj; cases hlj
        exact hsep i b l1 hgi hli' hn1 hn2
      · rw [ah ej] at hgj
        have hlj':ρ j=some l2:=by simpa [Rho.set,Ne.symm ej] using hlj
        exact hi.heap.inj i j b b' l1 l2 hgi hgj hne hli' hlj' hn1 hn2
theorem rj (id s:Nat) (t:ba U El) (i:Nat):aK (np id s t) i=(aK t i).mv id s:=by
  induction t with
  | nil=>rfl
  | cons p t ih =>
    obtain ⟨j,v⟩:=p
    simp only [np,aK]
    cases Nat.beq j i<;>simp [ih]
theorem lN {s : Nat} {u : U} {k : St U El → Option (Fin U El)} (hX : CtxOk P X) (hs : StRel X B S0 w0 st a w) (hv : mI st s u k = some r) : ∃ st', StRel X B S0 w0 st' a w ∧ k st' = some r := by
  obtain ⟨S,ρ,hi⟩:=hs
  unfold mI at hv
  split at hv
  · rename_i he
    refine ⟨_,⟨S,_,(hi.forget hX s).join hX (l:=⟨0,0,X.E.sz u,0⟩) (u:=u) (xs:=[]) (by simp [Rho.del]) (fun ρ' e => ?_) (fun ρ'=>⟨rfl,rfl,by simp,fun h=>absurd rfl h⟩) (fun j b l' _ _ _ h=>absurd rfl h)⟩,hv⟩
    have:=hi.tmps s
    rw [he] at this
    generalize a.tmps.getD s undef=q at this
    cases this
    exact .fulN s _ e rfl rfl
  · rename_i id he
    by_cases e:id=s
    · subst e
      rw [Nat.beq_refl] at hv
      exact ⟨st,⟨S,ρ,hi⟩,hv⟩
    · rw [ah e] at hv
      simp only [cond] at hv
      split at hv
      · rename_i v xs hg
        obtain ⟨l,hl,hb⟩:=hi.heap.get _ _ hg
        have hb':∀ ρ':Rho,BlkRel X.E S ρ' w B l (.rows v xs):=fun ρ'=>by
          obtain ⟨h1,h2,h3,h4⟩:=hb
          refine ⟨h1,h2,h3,fun hn => ?_⟩
          obtain ⟨h5,h6,c,hh,h7,h8⟩:=h4 hn
          exact ⟨h5,h6,c,hh,h7,fun i x j a hi' hj=>by obtain ⟨vv,hv,hr⟩:=h8 i x j a hi' hj; exact ⟨vv,hv,hr.cellρ hX.u (hX.u.cell v x a (List.mem_of_getElem? hj))⟩⟩
        have hj:=((hi.forget hX id).forget hX s).join hX (s:=s) (l:=l) (u:=v) (xs:=xs) (by simp [Rho.del]) (fun ρ' e' => ?c1) hb' (fun j b l' hgj hlj hn hn' => ?c2)
        refine ⟨_,⟨S,_,hj.learn fun i => ?c3⟩,hv⟩
        case c3 =>
          show Rel X.E S _ w (aK ((s,.ful s) :: np id s st.t) i) _
          have h0:=hj.tmps i
          have es:((((ρ.del id).del s).set s l) s)=some l:=by simp [Rho.set]
          simp only [aK] at h0 ⊢
          by_cases ei:s=i
          · subst ei; rw [Nat.beq_refl] at h0 ⊢; exact h0
          · rw [ah ei] at h0 ⊢
            simp only [cond] at h0 ⊢
            rw [rj]
            have hk:aK (((st.forget id).forget s).t) i=((aK st.t i).kill id).kill s:=by
              show aK (kj s (kj id st.t)) i=_
              rw [gv,gv]
            rw [hk] at h0
            have hr:=hi.tmps i
            unfold AV.mv
            split
            · rename_i i' hv'
              cases hb2:Nat.beq i' id with
              | false=>simp only [cond]; rw [hv'] at h0; exact h0
              | true =>
                obtain rfl:=Nat.eq_of_beq_eq_true hb2
                simp only [cond]
                rw [hv'] at hr
                generalize a.tmps.getD i undef=q at hr
                cases hr with
                | ful _ cap l' hl' c1 c2=>rw [hl] at hl'; cases hl'; exact .ful s cap l es c1 c2
                | fulN _ l' hl' c1 c2=>rw [hl] at hl'; cases hl'; exact .fulN s l es c1 c2
            · rename_i i' lo' n' hv'
              cases hb2:Nat.beq i' id with
              | false=>simp only [cond]; rw [hv'] at h0; exact h0
              | true =>
                obtain rfl:=Nat.eq_of_beq_eq_true hb2
                simp only [cond]
                rw [hv'] at hr
                generalize a.tmps.getD i undef=q at hr
                cases hr with
                | own _ _ _ cap l' hl' c1 c2 c3=>rw [hl] at hl'; cases hl'; exact .own s lo' n' cap l es c1 c2 c3
                | ownE _ _ ao cap=>exact .ownE s lo' ao cap
            · exact h0
        case c1 =>
          have:=hi.tmps s
          rw [he] at this
          generalize a.tmps.getD s undef=q at this
          cases this with
          | ful _ cap l' hl' c1 c2=>rw [hl] at hl'; cases hl'; exact .ful s cap l e' c1 c2
          | fulN _ l' hl' c1 c2=>rw [hl] at hl'; cases hl'; exact .fulN s l e' c1 c2
        case c2 =>
          simp only [St.forget,cd,bE,Option.map_eq_some_iff] at hgj
          obtain ⟨b0,h0,_⟩:=hgj
          split at h0
          · cases h0
          · simp only [Option.map_eq_some_iff] at h0
            obtain ⟨b1,h1,_⟩:=h0
            split at h1
            · cases h1
            · rename_i e1 e2
              have hlj':ρ j=some l':=by
                unfold Rho.del at hlj
                split at hlj
                · cases hlj
                · first
                  | exact hlj
                  | (split at hlj
                     · cases hlj
                     · exact hlj)
              exact hi.heap.inj j id b1 _ l' l h1 hg e2 hlj' hl hn hn'
      · cases hv
  · rename_i id lo len he
    obtain ⟨hck,hv2⟩:=ae hv
    simp only [Bool.and_eq_true,nlt,decide_eq_true_eq] at hck
    obtain ⟨hlo,hlen⟩:=hck
    obtain rfl:=Nat.eq_of_beq_eq_true hlo
    split at hv2
    · rename_i v xs hg
      obtain ⟨l,hl,hb⟩:=hi.heap.get _ _ hg
      have hts:=hi.tmps s
      rw [he] at hts
      generalize hq:a.tmps.getD s undef=q at hts
      cases hts with
      | ownE _ _ ao cap=>omega
      | own _ _ _ cap l' hl' e1 e2 e3 =>
        rw [hl] at hl'; cases hl'
        obtain ⟨h1,h2,h3,h4⟩:=hb
        have hlx:len≤xs.length:=by rw [← h2]; omega
        refine ⟨_,⟨S,_,((hi.forget hX id).forget hX s).join hX (s:=s) (l:=⟨l.b,l.n,l.s,len⟩) (u:=v) (xs:=List.take len xs) (by simp [Rho.del]) (fun ρ' e' => ?_) (fun ρ'=>⟨h1,by simp; omega,?_,fun hn => ?_⟩) (fun j b l' hgj hlj hn hn' => ?_)⟩,hv2⟩
        · rw [hq, show 0 * l.s = 0 by omega]
          exact .ful s cap ⟨l.b,l.n,l.s,len⟩ e' (by simpa using e1) e2
        · rw [List.length_take, Nat.min_eq_left hlx]
          exact Nat.le_trans (Nat.mul_le_mul_right _ hlx) h3
        · obtain ⟨h5, h6, c, hh, h7, h8⟩ := h4 hn
          refine ⟨h5,h6,c,hh,h7,fun i x j a hx hj => ?_⟩
          have hx':xs[i]? = some x:=by
            rw [List.getElem?_take] at hx
            split at hx
            · exact hx
            · cases hx
          obtain ⟨vv,hv,hr⟩:=h8 i x j a hx' hj
          exact ⟨vv,hv,hr.cellρ hX.u (hX.u.cell v x a (List.mem_of_getElem? hj))⟩
        · simp only [St.forget, cd, bE, Option.map_eq_some_iff] at hgj
          obtain ⟨b0,h0,_⟩:=hgj
          split at h0
          · cases h0
          · simp only [Option.map_eq_some_iff] at h0
            obtain ⟨b1,h1',_⟩:=h0
            split at h1'
            · cases h1'
            · rename_i e1 e2
              have hlj':ρ j=some l':=by
                unfold Rho.del at hlj
                split at hlj
                · cases hlj
                · first
                  | exact hlj
                  | (split at hlj
                     · cases hlj
                     · exact hlj)
              exact hi.heap.inj j id b1 _ l' l h1' hg e2 hlj' hl hn hn'
    · cases hv2
  · cases hv
theorem jf (hX:CtxOk P X):∀ (cs:List (Nat×Nat×U)) (st:St U El) (k:St U El→Option (Fin U El)),StRel X B S0 w0 st a w→gS st cs k=some r→∃ st',StRel X B S0 w0 st' a w∧k st'=some r:=by
  intro cs
  induction cs with
  | nil=>intro st k hs hv; exact ⟨st,hs,hv⟩
  | cons c cs ih =>
    intro st k hs hv
    obtain ⟨s,off,u⟩:=c
    obtain ⟨st1,h1,h2⟩:=fG hX hs hv
    exact ih st1 k h1 h2
theorem Inv.setCell {b tg off : Nat} {cs : List (AV U El)} {c' : AV U El} (hi : Inv X B S0 w0 S ρ st a w) (hg : ac st.h b = some (.box tg cs)) (hc : ∀ l c e v, ρ b = some l → w.heap[l.b]? = some (.cells c e (0, 0)) → c[off]? = some v → Rel X.E S ρ w c' v) :
    Inv X B S0 w0 S ρ ⟨st.t,bM st.h b (.box tg (cs.set off c'))⟩ a w:=by
  have hcase:∀ i c,ac (bM st.h b (.box tg (cs.set off c'))) i=some c→(i=b∧c = .box tg (cs.set off c'))∨(i≠b∧ac st.h i=some c):=fun i c h=>by
    rw [bJ] at h
    by_cases e:i=b
    · subst e; rw [if_pos rfl,hg] at h; cases h; exact .inl ⟨rfl,rfl⟩
    · rw [if_neg e] at h; exact .inr ⟨e,h⟩
  refine ⟨hi.defers,hi.size,hi.below,hi.hB,hi.s0,hi.s1,hi.g0,hi.tmps,⟨fun i c hgi => ?_,fun i i' c c'' l1 l2 hgi hgi' hne hli hli' hn1 hn2 => ?_,hi.heap.lt⟩⟩
  · rcases hcase i c hgi with ⟨rfl, rfl⟩ | ⟨_, h⟩
    · obtain ⟨l, hl, b0, b1, b2⟩ := hi.heap.get _ _ hg
      refine ⟨l,hl,b0,by simpa using b1,fun hn => ?_⟩
      obtain ⟨b3,b4,c0,e0,hh,b5,b6⟩:=b2 hn
      refine ⟨b3,b4,c0,e0,hh,b5,fun m x hm => ?_⟩
      by_cases em:m=off
      · subst em
        have hml:m < cs.length:=by have:=(List.getElem?_eq_some_iff.1 hm).1; simpa using this
        rw [List.getElem?_set_self hml] at hm
        cases hm
        have hmc:m < c0.size:=by rw [b5,b1]; exact hml
        exact ⟨c0[m],by simp [hmc],hc l c0 e0 _ hl hh (by simp [hmc])⟩
      · rw [List.getElem?_set_ne (Ne.symm em)] at hm
        exact b6 m x hm
    · exact hi.heap.get i c h
  · have k1 : ∃ c0, ac st.h i = some c0 := by
      rcases hcase i c hgi with ⟨rfl,_⟩ | ⟨_,h⟩
      · exact ⟨_,hg⟩
      · exact ⟨_,h⟩
    have k2:∃ c0,ac st.h i'=some c0:=by
      rcases hcase i' c'' hgi' with ⟨rfl,_⟩ | ⟨_,h⟩
      · exact ⟨_,hg⟩
      · exact ⟨_,h⟩
    obtain ⟨c1,h1⟩:=k1
    obtain ⟨c2,h2⟩:=k2
    exact hi.heap.inj i i' c1 c2 l1 l2 h1 h2 hne hli hli' hn1 hn2
theorem kM {b off : Nat} {u : U} {k : St U El → Option (Fin U El)} (hX : CtxOk P X) (hs : StRel X B S0 w0 st a w) (hv : kt st b off u k = some r) : ∃ st', StRel X B S0 w0 st' a w ∧ k st' = some r := by
  obtain ⟨S,ρ,hi⟩:=hs
  unfold kt at hv
  split at hv
  · rename_i tg cs hg
    have hval:∀ l c e v c0,ρ b=some l→w.heap[l.b]? = some (.cells c e (0,0))→c[off]? = some v→cs[off]? = some c0→Rel X.E S ρ w c0 v:=fun l c e v c0 hl hh hcv hc0=>by
      obtain ⟨l',hl',b0,b1,b2⟩:=hi.heap.get _ _ hg
      rw [hl] at hl'; cases hl'
      have hn:l.n≠0:=by have:=(List.getElem?_eq_some_iff.1 hc0).1; omega
      obtain ⟨b3,b4,c1,e1,hh1,b5,b6⟩:=b2 hn
      rw [hh] at hh1; cases hh1
      obtain ⟨v',hv',hr⟩:=b6 off c0 hc0
      rw [hcv] at hv'; cases hv'
      exact hr
    split at hv
    · rename_i hc
      refine ⟨_,⟨S,ρ,hi.setCell hg fun l c e v hl hh hcv => ?_⟩,hv⟩
      have:=hval l c e v _ hl hh hcv hc
      cases this
      exact .lstE _ _ _
    · rename_i id hc
      split at hv
      · rename_i v xs hgr
        split at hv
        · rename_i tg' cs' hg'
          obtain ⟨l,hl,hb⟩:=hi.heap.get _ _ hgr
          have hsh:=hi.share hX hgr hl
          refine ⟨_,⟨_,_,hsh.setCell hg' fun lb c e vv hlb hh hcv => ?_⟩,hv⟩
          have hbid:b≠id:=by
            rintro rfl
            simp [Rho.del] at hlb
          have hlb':ρ b=some lb:=by simpa [Rho.del,hbid] using hlb
          exact kf hX hb hl (hval lb c e vv _ hlb' hh hcv hc)
        · exact ⟨st,⟨S,ρ,hi⟩,hv⟩
      · exact ⟨st,⟨S,ρ,hi⟩,hv⟩
    · exact ⟨st,⟨S,ρ,hi⟩,hv⟩
  · exact ⟨st,⟨S,ρ,hi⟩,hv⟩
theorem jg (hX:CtxOk P X):∀ (cs:List (Nat×Nat×U)) (st:St U El) (k:St U El→Option (Fin U El)),StRel X B S0 w0 st a w→gU st cs k=some r→∃ st',StRel X B S0 w0 st' a w∧k st'=some r:=by
  intro cs
  induction cs with
  | nil=>intro st k hs hv; exact ⟨st,hs,hv⟩
  | cons c cs ih =>
    intro st k hs hv
    obtain ⟨b,off,u⟩:=c
    obtain ⟨st1,h1,h2⟩:=kM hX hs hv
    exact ih st1 k h1 h2
theorem kN (hX:CtxOk P X):∀ (cs:List (Nat×U)) (st:St U El) (k:St U El→Option (Fin U El)),StRel X B S0 w0 st a w→ku st cs k=some r→∃ st',StRel X B S0 w0 st' a w∧k st'=some r:=by
  intro cs
  induction cs with
  | nil=>intro st k hs hv; exact ⟨st,hs,hv⟩
  | cons c cs ih =>
    intro st k hs hv
    obtain ⟨s,u⟩:=c
    obtain ⟨st1,h1,h2⟩:=fS hX hs hv
    exact ih st1 k h1 h2
theorem lO (hX:CtxOk P X):∀ (cs:List (Nat×U)) (st:St U El) (k:St U El→Option (Fin U El)),StRel X B S0 w0 st a w→mJ st cs k=some r→∃ st',StRel X B S0 w0 st' a w∧k st'=some r:=by
  intro cs
  induction cs with
  | nil=>intro st k hs hv; exact ⟨st,hs,hv⟩
  | cons c cs ih =>
    intro st k hs hv
    obtain ⟨s,u⟩:=c
    obtain ⟨st1,h1,h2⟩:=lN hX hs hv
    exact ih st1 k h1 h2
theorem rk (t:ba U El) (l:List Nat) (i:Nat):aK (ik t l) i=aK t i∨aK (ik t l) i = .any:=by
  induction l with
  | nil=>exact .inr rfl
  | cons s l ih =>
    simp only [ik,aK]
    by_cases e:s=i
    · subst e; rw [Nat.beq_refl]; exact .inl rfl
    · rw [ah e]; exact ih
theorem d4 (h:az U El) (l:List Nat) (j:Nat) (b:Blk U El) (hg:ac (il h l) j=some b):ac h j=some b:=by
  induction l with
  | nil=>cases hg
  | cons s l ih =>
    simp only [il] at hg
    split at hg
    · rename_i b' hb'
      simp only [ac] at hg
      by_cases e:s=j
      · subst e; rw [Nat.beq_refl] at hg; cases hg; exact hb'
      · rw [ah e] at hg; exact ih hg
    · exact ih hg
theorem dJ {nm:Norm U} {k:St U El→Option (Fin U El)} (hX:CtxOk P X) (hs:StRel X B S0 w0 st a w) (hv:aX nm st k=some r):∃ st',StRel X B S0 w0 st' a w∧k st'=some r:=by
  obtain ⟨st00,hs00,h00⟩:=lO hX nm.casts st _ hs hv
  obtain ⟨st01,hs01,h01⟩:=j3 hX nm.cells st00 _ hs00 h00
  obtain ⟨st02,hs02,h02⟩:=jg hX nm.bcells st01 _ hs01 h01
  obtain ⟨st0,hs0,h0⟩:=jf hX nm.scells st02 _ hs02 h02
  obtain ⟨st1,⟨S,ρ,hi⟩,h2⟩:=kN hX nm.shares st0 _ hs0 h0
  refine ⟨_,⟨S,ρ,hi.defers,hi.size,hi.below,hi.hB,hi.s0,hi.s1,hi.g0,fun i => ?_,⟨fun j b hg=>hi.heap.get j b (d4 _ _ _ _ hg),fun i j b b' l l' hgi hgj=>hi.heap.inj i j b b' l l' (d4 _ _ _ _ hgi) (d4 _ _ _ _ hgj),hi.heap.lt⟩⟩,h2⟩
  rcases rk st1.t nm.keep i with e | e
  · simp only [e]; exact hi.tmps i
  · simp only [e]; exact .any _
theorem nX {id : Nat} {ops : Array Oper} {ws : List (Nat × Nat)} {K : af U El} {Q : Exit → Act → World → Prop} (hX : CtxOk P X) (hM : MOk P X) (hs : StRel X B S0 w0 st a w) (hK : ∀ st' a' w', StRel X B S0 w0 st' a' w' → K st' = some r → Q .normal a' w')
    (hv:(match ops.toList.getLast? with
         | some o=>bif eM X.nt ops.toList.dropLast ws&&mH X.nt ops.toList.dropLast o then
            (let os:=ops.toList.dropLast
             let st0:=st.forgets (cr os)
             bZ X (os.map (·.dst)) (kq (dV os []) (eF os ws)) ws os 0 st0.t st0.h fun st'=>dt X [] [o] st' K)
            else none
         | none=>none)=some r):(Code.region id ops true).wp P Q a w:=by
  split at hv
  · rename_i o hlast
    cases hc:(eM X.nt ops.toList.dropLast ws&&mH X.nt ops.toList.dropLast o) with
    | false=>rw [hc] at hv; cases hv
    | true =>
      rw [hc] at hv
      simp only [cond_true] at hv
      obtain ⟨hok,hlo⟩:=Bool.and_eq_true_iff.1 hc
      have hops:ops=ops.toList.dropLast.toArray.push o:=by
        apply Array.ext'
        rw [Array.toList_push]
        have:ops.toList≠[]:=by rintro h; rw [h] at hlast; cases hlast
        have h2:=List.dropLast_concat_getLast this
        rw [List.getLast?_eq_some_getLast this] at hlast
        cases hlast
        exact h2.symm
      generalize hio:ops.toList.dropLast=os at hok hlo hv hops
      have hinit:(os.toArray).toList=os:=rfl
      simp only [mH,Bool.and_eq_true] at hlo
      obtain ⟨⟨⟨⟨g1,g2⟩,g3⟩,g4⟩,g5⟩:=hlo
      have hf:DrawFacts os.toArray ws X.nt:=lZ (ops:=os.toArray) hok
      subst hops
      refine wp_region_any hX.mixed ?_
      have hsz:(os.toArray.push o).size=os.toArray.size+1:=Array.size_push _
      have hrep:Array.replicate (os.toArray.push o).size false=(Array.replicate os.toArray.size false).push false:=by
        rw [hsz]
        exact Array.replicate_succ
      rw [hrep,hsz]
      have hnoL:∀ i,¬ ((Array.replicate os.toArray.size false).getD i false=true):=fun i=>by
        rw [Array.getD_eq_getD_getElem?]
        by_cases h:i < os.length<;>simp [h]
      refine pp hf (fun i hi => ?_) (fun e he hb => ?_) (fun i oi g b hoi hgd => ?_) _ _ a _ (by simp) (fun i oi h=>absurd h (hnoL i)) ?_
      · exact List.all_eq_true.1 g3 i (List.mem_range.2 (by simpa using hi))
      · have := List.all_eq_true.1 g4 e (by simpa using he)
        rw [hb] at this
        have h3:e.on < os.length:=by simpa using this
        simpa using h3
      · have hi : i < os.length := by simpa using (Array.getElem?_eq_some_iff.1 hoi).1
        have hoi':os[i]? = some oi:=by simpa using hoi
        have hm:(oi,i)∈os.zipIdx:=by
          rw [List.mem_zipIdx_iff_getElem?]
          exact hoi'
        have:=List.all_eq_true.1 g5 _ hm
        simp only [hgd] at this
        exact Nat.le_of_ble_eq_true this
      · refine kJ (ops := os.toArray) hX hs hok (fun st' a' w' hs' hk' => ?_) hv
        show wpOp P (os.toArray.push o) Q os.toArray.size (Q .normal) a' w'
        unfold wpOp
        rw [Array.getElem?_push,if_pos rfl]
        have hgn:o.guard=none:=by
          revert g1
          cases o.guard<;>simp
        have hw:Region.wanted o (yielded (os.toArray.push o) a'.tmps)=true:=by simp [Region.wanted,hgn]
        simp only [hw,if_true]
        refine .inl ?_
        simp only [dt,eE,hgn] at hk'
        obtain ⟨t',hk,hor⟩:=dE hk'
        have hst':StRel X B S0 w0 ⟨t',st'.h⟩ a' w':=by
          rcases hor with rfl | ⟨g,b,hg,rfl⟩
          · exact hs'
          · exact hs'.refine hg
        obtain ⟨st2,⟨S,ρ,hi⟩,hk2⟩:=ef hX hst' hk
        exact cF hX hM hi hk2 (fun st3 a3 w3 h3 h4=>hK st3 a3 w3 h3 h4)
  · cases hv
theorem kO (hX : CtxOk P X) (hM : MOk P X) : ∀ (c : Code) (n : Ann U) (st : St U El) (K : af U El) (E : Nat → af U El) (R : af U El) (a : Act) (w : World) (Q : Exit → Act → World → Prop),
    (∀ st' a' w',StRel X B S0 w0 st' a' w'→K st'=some r→Q .normal a' w')→(∀ i st' a' w',StRel X B S0 w0 st' a' w'→E i st'=some r→Q (.exit i) a' w')→(∀ st' a' w',StRel X B S0 w0 st' a' w'→R st'=some r→Q .ret a' w') →
    StRel X B S0 w0 st a w→aj X c n st K E R=some r→c.wp P Q a w:=by
  intro c
  induction c with
  | skip=>intro n st K E R a w Q hK hE hR hs hv; exact wp_skip (hK st a w hs hv)
  | region id ops dr =>
    intro n st K E R a w Q hK hE hR hs hv
    simp only [aj] at hv
    cases dr with
    | true =>
      simp only [cond] at hv
      cases hL:n.isL with
      | true =>
        rw [hL] at hv
        exact nX hX hM hs hK hv
      | false =>
        rw [hL] at hv
        cases hok:eM X.nt ops.toList n.ws with
        | false=>rw [hok] at hv; cases hv
        | true =>
          rw [hok] at hv
          exact kK hX hs hok hK hv
    | false =>
      simp only [cond] at hv
      obtain ⟨h1,h2⟩:=ae hv
      exact mQ hX hM hs hK (fun o ho e he=>by
        have:=List.all_eq_true.1 h1 o ho
        rw [he] at this
        exact Nat.le_of_ble_eq_true this) h2
  | seq x y ihx ihy =>
    intro n st K E R a w Q hK hE hR hs hv
    simp only [aj] at hv
    refine wp_seq (ihx n.fst st _ E R a w _ (fun st' a' w' hs' hv' => ?_) (fun i st' a' w' hs' hv'=>hE i st' a' w' hs' hv') (fun st' a' w' hs' hv'=>hR st' a' w' hs' hv') hs hv)
    cases hcut:n.cut with
    | none =>
      rw [hcut] at hv'
      exact ihy n.snd st' K E R a' w' Q hK hE hR hs' hv'
    | some nm =>
      rw [hcut] at hv'
      obtain ⟨st2,h1,h2⟩:=dJ hX hs' hv'
      rw [al] at h2
      exact ihy n.snd st2 K E R a' w' Q hK hE hR h1 h2
  | cond c x y ihx ihy =>
    intro n st K E R a w Q hK hE hR hs hv
    simp only [aj] at hv
    cases c with
    | tmp g =>
      obtain ⟨b,hb,hv'⟩:=fT hv
      have hs2:=hs.refine hb
      have hval:a.eval (.tmp g) = .bool b:=by
        obtain ⟨S,ρ,hi⟩:=hs
        have:=hi.tmps g
        rw [hb] at this
        show a.tmps.getD g undef=_
        generalize a.tmps.getD g undef=q at this
        cases this; rfl
      refine wp_cond hval ?_
      cases b with
      | true=>exact ihx n.fst _ K E R a w Q hK hE hR hs2 hv'
      | false=>exact ihy n.snd _ K E R a w Q hK hE hR hs2 hv'
    | _=>cases hv
  | block id b ih =>
    intro n st K E R a w Q hK hE hR hs hv
    simp only [aj] at hv
    refine wp_block (ih n.fst st K _ R a w _ (fun st' a' w' hs' hv'=>hK st' a' w' hs' hv') (fun i st' a' w' hs' hv' => ?_) (fun st' a' w' hs' hv'=>hR st' a' w' hs' hv') hs hv)
    simp only [Exit.inBlock]
    unfold aC at hv'
    by_cases e:i=id
    · subst e
      rw [Nat.beq_refl] at hv'
      rw [if_pos rfl]
      exact hK st' a' w' hs' hv'
    · rw [ah e] at hv'
      rw [if_neg e]
      exact hE i st' a' w' hs' hv'
  | loop b ih =>
    intro n st K E R a w Q hK hE hR hs hv
    simp only [aj] at hv
    split at hv
    · rename_i nm _
      obtain ⟨st1,h1,h2⟩:=dJ hX hs hv
      rw [al] at h2
      refine wp_loop_rounds X.fuel ?_
      have key:∀ (m:Nat) (st:St U El) (a:Act) (w:World),StRel X B S0 w0 st a w→ca nm (fun st' K'=>aj X b n.fst st' K' E R) m st=some r→Code.rounds P b Q m a w:=by
        intro m
        induction m with
        | zero=>intro st a w _ hv; cases hv
        | succ m ihm =>
          intro st a w hs hv
          simp only [ca] at hv
          refine ih n.fst st _ E R a w _ (fun st' a' w' hs' hv' => ?_) (fun i st' a' w' hs' hv'=>hE i st' a' w' hs' hv') (fun st' a' w' hs' hv'=>hR st' a' w' hs' hv') hs hv
          obtain ⟨st2,g1,g2⟩:=dJ hX hs' hv'
          exact ihm st2 a' w' g1 g2
      exact key X.fuel st1 a w h1 h2
    · cases hv
  | exit id=>intro n st K E R a w Q hK hE hR hs hv; exact wp_exit (hE id st a w hs hv)
  | ret=>intro n st K E R a w Q hK hE hR hs hv; exact wp_ret (hR st a w hs hv)
  | _=>intro n st K E R a w Q hK hE hR hs hv; simp [aj] at hv
def kP (tmps:Array Value):List Nat→Value
  | [t]=>tmps.getD t undef
  | res => .tuple (res.map fun t=>tmps.getD t undef).toArray
theorem pq (X:Ctx U El) (m n0:Nat) (k:St U El→Option (Fin U El)):∀ (lds:List (Nat×TypeId)) (p:Nat) (st:St U El),bD { X with nt:=m } n0 lds p st k=bD X n0 lds p st k:=by
  intro lds
  induction lds with
  | nil=>intro p st; rfl
  | cons q lds ih =>
    intro p st
    simp only [bD,ih]
    rfl
theorem eO {n0 : Nat} {k : St U El → Option (Fin U El)} : ∀ (lds : List (Nat × TypeId)) (X : Ctx U El) (st : St U El) (a : Act), CtxOk P X → Inv X B S0 w0 S ρ st a w → n0 ≤ X.nt → bD X n0 lds X.nt st k = some r →
    ∃ (vals : List Value) (st' : St U El), vals.length = lds.length ∧ k st' = some r ∧ (∀ (i : Nat) (q : Nat × TypeId), lds[i]? = some q → q.1 < n0 ∧ ∃ v, vals[i]? = some v ∧ (do loadVar q.2 (← asAddr (a.tmps.getD q.1 undef))).run P w = .ok v w) ∧
      CtxOk P { X with nt:=X.nt+lds.length }∧Inv { X with nt:=X.nt+lds.length } B S0 w0 S ρ st' { a with tmps:=a.tmps++vals.toArray } w:=by
  intro lds
  induction lds with
  | nil=>intro X st a hX hi _ hv; exact ⟨[],st,rfl,hv,(fun i q h=>by cases h),hX,by simpa using hi⟩
  | cons q lds ih =>
    obtain ⟨b,ty⟩:=q
    intro X st a hX hi hn hv
    simp only [bD] at hv
    split at hv
    · rename_i td htd
      split at hv
      · rename_i sz ag hag
        obtain ⟨hb,hv⟩:=ae hv
        have hb:b < n0:=Nat.le_of_ble_eq_true hb
        obtain ⟨cs,off,bb,o',hk,hpv,hc⟩:=nv hX hi.heap (fun _ _ h=>h) (hi.tmps b) hv
        obtain ⟨ht,hz⟩:=mK (hX.td _ _ htd) hag
        obtain ⟨av,v,hk',hrun,hr⟩:=lW ht hz hc hk
        have hX1:CtxOk P { X with nt:=X.nt+1 }:=⟨hX.mixed,hX.u,hX.td,hX.z,hX.one,hX.eq,hX.det,hX.dsp,hX.spec⟩
        have hi1:Inv { X with nt:=X.nt+1 } B S0 w0 S ρ ⟨(X.nt,av) :: st.t,st.h⟩ { a with tmps:=a.tmps.push v } w:=by
          refine ⟨hi.defers,by simp [hi.size],hi.below,hi.hB,hi.s0,hi.s1,hi.g0,fun i => ?_,hi.heap⟩
          simp only [aK]
          by_cases e:X.nt=i
          · subst e
            rw [Nat.beq_refl,Array.getD_eq_getD_getElem?,← hi.size,Array.getElem?_push_size]
            exact hr
          · rw [ah e]
            have:(a.tmps.push v).getD i undef=a.tmps.getD i undef:=by
              rw [Array.getD_eq_getD_getElem?,Array.getD_eq_getD_getElem?,Array.getElem?_push,if_neg (by rw [hi.size]; exact fun h=>e h.symm)]
            rw [this]
            exact hi.tmps i
        obtain ⟨vals,st',h1,h2,h3,h4,h5⟩:=ih { X with nt:=X.nt+1 } _ _ hX1 hi1 (Nat.le_succ_of_le hn) (by rw [pq]; exact hk')
        have e1:X.nt+1+lds.length=X.nt+(lds.length+1):=by omega
        refine ⟨v :: vals,st',by simp [h1],h2,fun i q hq => ?_,by simpa [e1] using h4,?_⟩
        · cases i with
          | zero =>
            cases hq
            refine ⟨hb,v,rfl,?_⟩
            simp [hpv,asAddr,hrun]
          | succ i =>
            obtain ⟨g1,x,g2,g3⟩:=h3 i q (by simpa using hq)
            refine ⟨g1,x,by simpa using g2,?_⟩
            have:(a.tmps.push v).getD q.1 undef=a.tmps.getD q.1 undef:=by
              rw [Array.getD_eq_getD_getElem?,Array.getD_eq_getD_getElem?,Array.getElem?_push,if_neg (by rw [hi.size]; omega)]
            rw [this] at g3
            exact g3
        · have e2 : a.tmps.push v ++ vals.toArray = a.tmps ++ (v :: vals).toArray := by
            apply Array.ext'
            simp
          simp only [e2] at h5
          simpa [e1] using h5
      · cases hv
    · cases hv
theorem fw {fn : Func} {lds : List (Nat × TypeId)} {res : List Nat} {nt : Nat} {tmps : Array Value} {vals : List Value} {w : World} (h : fn.results = (res.map (lD nt lds)).toArray) (hsz : tmps.size = nt) (hl : vals.length = lds.length)
    (hv:∀ (i:Nat) (q:Nat×TypeId),lds[i]? = some q→q.1 < nt∧∃ v,vals[i]? = some v∧(do loadVar q.2 (← asAddr (tmps.getD q.1 undef))).run P w = .ok v w):(results fn tmps).run P w = .ok (kP (tmps++vals.toArray) res) w:=by
  have key:∀ (f:ResultVar→Sem Value),(∀ t,f (.tmp t)=pure (tmps.getD t undef))→(∀ b ty,f (.cell b ty)=(do loadVar ty (← asAddr (tmps.getD b undef))))→∀ l:List Nat,((l.map (lD nt lds)).mapM f).run P w = .ok (l.map fun t=>(tmps++vals.toArray).getD t undef) w:=by
    intro f hf hc l
    induction l with
    | nil=>simp
    | cons t l ih =>
      have h1:(f (lD nt lds t)).run P w = .ok ((tmps++vals.toArray).getD t undef) w:=by
        unfold lD
        split
        · rename_i hlt
          rw [hf,Sem.run_pure]
          congr 1
          rw [Array.getD_eq_getD_getElem?,Array.getD_eq_getD_getElem?,Array.getElem?_append_left (by omega)]
        · rename_i hlt
          cases hq:lds[t - nt]? with
          | none =>
            have:lds.length≤t - nt:=by simpa using hq
            simp only
            rw [hf,Sem.run_pure]
            congr 1
            rw [Array.getD_eq_getD_getElem?,Array.getD_eq_getD_getElem?,Array.getElem?_eq_none (by omega),Array.getElem?_eq_none (by simp; omega)]
          | some q =>
            obtain ⟨_,v,g1,g2⟩:=hv _ q hq
            simp only
            rw [hc,g2]
            congr 1
            rw [Array.getD_eq_getD_getElem?,Array.getElem?_append_right (by omega),hsz]
            simp [g1]
      simp only [List.map_cons,List.mapM_cons,h1,Sem.run_bind,Sem.run_pure,Result.andThen_ok,ih]
  unfold results
  rw [h]
  simp only [Sem.run_bind]
  rw [Array.mapM_eq_mapM_toList]
  simp only [List.toList_toArray,Sem.run_map]
  rw [key _ (fun _=>rfl) (fun _ _=>rfl)]
  simp only [Result.andThen_ok,Sem.run_pure]
  congr 1
  match res with
  | []=>rfl
  | [t]=>rfl
  | t :: u :: l=>simp [kP]
theorem pu:∀ (l:List Nat) (n:Nat) (id:Nat) (p:Nat×Nat),(du l n).find? (fun p=>Nat.beq p.1 id)=some p→p.1=id∧n≤p.2∧l[p.2 - n]? = some id:=by
  intro l
  induction l with
  | nil=>intro n id p h; simp [du] at h
  | cons i l ih =>
    intro n id p h
    simp only [du,List.find?_cons] at h
    by_cases e:i=id
    · subst e
      simp only [Nat.beq_refl] at h
      cases h
      simp
    · simp only [ah e] at h
      obtain ⟨h1,h2,h3⟩:=ih (n+1) id p h
      refine ⟨h1,by omega,?_⟩
      rw [show p.2 - n=(p.2 - (n+1))+1 by omega,List.getElem?_cons_succ]
      exact h3
theorem cG {f : FuncId} {fn : Func} {body : Code} {n : Ann U} {nm : Norm U} {lds : List (Nat × TypeId)} {res ex : List Nat} {args : List (AV U El)} {v : AV U El} {h : az U El} (hX : CtxOk P X) (hM : MOk P X) (hcall : ∀ as w, (callFunc f as).run P w = .ok (.enter f as) w)
    (hf:P.funcs[f]? = some fn) (hb:fn.body=some body) (hnt:fn.ntmps=X.nt) (hres:fn.results=(res.map (lD X.nt lds)).toArray) (hargs:args.length≤X.nt) (hex:ex.Nodup) (h4:(h.map (·.1)).all (fun i=>Nat.blt i 4)=true)
    (hv:ja X body n nm lds res ex args=some (v,h)):ar P X.E f args v h:=by
  have hget4:∀ (l:List (Nat×Nat)) (H r:az U El),q8 H l=some r→∀ j b,ac r j=some b→∃ id u xs,(id,j)∈l∧b = .rows u xs∧ac H id=some (.rows u xs):=by
    intro l
    induction l with
    | nil=>intro H r hr j b hg; simp [q8] at hr; subst hr; cases hg
    | cons p l ih =>
      intro H r hr j b hg
      obtain ⟨id,m⟩:=p
      simp only [q8] at hr
      split at hr
      · rename_i u xs hgi
        split at hr
        · rename_i r' hr'
          cases hr
          simp only [ac] at hg
          by_cases e:m=j
          · subst e; rw [Nat.beq_refl] at hg; cases hg; exact ⟨id,u,xs,by simp,rfl,hgi⟩
          · rw [ah e] at hg
            obtain ⟨id',u',xs',g1,g2,g3⟩:=ih H r' hr' j b hg
            exact ⟨id',u',xs',by simp [g1],g2,g3⟩
        · cases hr
      · cases hr
  have hmem:∀ (l:List Nat) (n id m:Nat),(id,m)∈du l n→n≤m∧l[m - n]? = some id:=by
    intro l
    induction l with
    | nil=>intro n id m h; simp [du] at h
    | cons i l ih =>
      intro n id m h
      simp only [du,List.mem_cons,Prod.mk.injEq] at h
      rcases h with ⟨rfl,rfl⟩ | h
      · simp
      · obtain ⟨h1, h2⟩ := ih (n + 1) id m h
        exact ⟨by omega,by rw [show m - n=(m - (n+1))+1 by omega,List.getElem?_cons_succ]; exact h2⟩
  have hfin:∀ st',aQ res ex st'=some (v,h)→∃ vs,q7 (du ex 0) (res.map (aK st'.t))=some vs∧q8 st'.h (du ex 0)=some h∧(∀ x,vs=[x]→v=x)∧((∀ x,vs≠[x])→v = .tup vs):=by
    intro st' hr
    unfold aQ at hr
    split at hr
    · rename_i x hh e1 e2
      cases hr
      exact ⟨_,e1,e2,fun y hy=>by cases hy; rfl,fun hn=>absurd rfl (hn _)⟩
    · rename_i vs hh e1 e2 e3
      cases hr
      exact ⟨_,e2,e3,fun y hy=>absurd hy (e1 y),fun _=>rfl⟩
    · cases hr
  refine ⟨hcall,fun j b hg => ?_,fun S w vs hlt hG hrel => ?_⟩
  · have : ∀ (l : az U El), (l.map (·.1)).all (fun i => Nat.blt i 4) = true → ac l j = some b → j < 4 := by
      intro l
      induction l with
      | nil=>intro _ h; cases h
      | cons p l ih =>
        intro h1 h2
        obtain ⟨i,c⟩:=p
        simp only [List.map_cons,List.all_cons,Bool.and_eq_true] at h1
        simp only [ac] at h2
        by_cases e:i=j
        · subst e; exact Nat.le_of_ble_eq_true h1.1
        · rw [ah e] at h2; exact ih h1.2 h2
    exact this h h4 hg
  · refine calls_of_wp hf hb ?_
    have hsz:(vs++Array.replicate (fn.ntmps - vs.size) undef).size=X.nt:=by
      have:=hrel.1
      simp; omega
    have hget0:∀ (l:List (AV U El)) (m i:Nat),aK (dj l m) i=if m≤i then (l[i - m]?).getD .any else .any:=by
      intro l
      induction l with
      | nil=>intro m i; simp [dj,aK]
      | cons c l ih =>
        intro m i
        simp only [dj,aK]
        by_cases e:m=i
        · subst e; simp [Nat.beq_refl]
        · rw [ah e, ih]
          simp only [cond]
          by_cases h1:m≤i
          · rw [if_pos (by omega),if_pos h1,show i - m=(i - (m+1))+1 by omega,List.getElem?_cons_succ]
          · rw [if_neg (by omega),if_neg h1]
    have h0:StRel X (eN w) S w ⟨dj args 0,[]⟩ { tmps:=vs++Array.replicate (fn.ntmps - vs.size) undef,defers:=[] } w:=by
      refine ⟨S,fun _=>none,rfl,hsz,Fr.refl _ _,fun _ hk=>hk,fun _ h=>h,fun _ h => .inl h,fun w' hb=>hX.u.gst _ _ hG hb.below,fun i => ?_,HRel.nil hlt _⟩
      show Rel X.E S _ w (aK (dj args 0) i) _
      rw [hget0]
      simp only [Nat.zero_le,if_true,Nat.sub_zero]
      cases hc:args[i]? with
      | none=>exact .any _
      | some c =>
        have hi:i < vs.size:=by rw [hrel.1]; exact (List.getElem?_eq_some_iff.1 hc).1
        simp only [Option.getD_some]
        rw [Array.getD_eq_getD_getElem?,Array.getElem?_append_left hi,Array.getElem?_eq_getElem hi]
        exact hrel.2 i c _ hc (Array.getElem?_eq_getElem hi)
    have hret : ∀ (X' : Ctx U El) (st' : St U El) (a' : Act) (w' : World), X'.E = X.E → StRel X' (eN w) S w st' a' w' → aQ res ex st' = some (v, h) → ∃ v' S' ρ', Ending.returned (kP a'.tmps res) = .returned v' ∧ Step S (fun _ => none) w S' ρ' w' ∧ HRel X.E S' ρ' w' (eN w) h ∧ Rel X.E S' ρ' w' v v' := by
      rintro X' st' a' w' hE ⟨S',ρ',hi⟩ hr
      have hiH:=hi.heap
      have hiT:=hi.tmps
      rw [hE] at hiH hiT
      obtain ⟨cs,e1,e2,e3,e4⟩:=hfin st' hr
      refine ⟨_,S',fun m=>(ex[m]?).bind ρ',rfl,⟨hi.below,hi.s0,hi.s1,fun _ _ h=>(by cases h),hlt⟩,?_,?_⟩
      · refine ⟨fun j b hg => ?_, fun i j b b' l l' hgi hgj hne hli hlj hn hn' => ?_, hiH.lt⟩
        · obtain ⟨id, u, xs, g1, rfl, g2⟩ := hget4 _ _ _ e2 j b hg
          obtain ⟨_,g3⟩:=hmem _ _ _ _ g1
          obtain ⟨l,hl,hb⟩:=hiH.get id _ g2
          refine ⟨l,by simp only [Nat.sub_zero] at g3; simp [g3,hl],?_⟩
          obtain ⟨h1,h2,h3,h4⟩:=hb
          refine ⟨h1,h2,h3,fun hn => ?_⟩
          obtain ⟨h5,h6,c,hh,h7,h8⟩:=h4 hn
          exact ⟨h5,h6,c,hh,h7,fun i x j a hi' hj=>by obtain ⟨vv,hv,hr⟩:=h8 i x j a hi' hj; exact ⟨vv,hv,hr.cellρ hX.u (hX.u.cell u x a (List.mem_of_getElem? hj))⟩⟩
        · obtain ⟨id, u, xs, g1, _, g2⟩ := hget4 _ _ _ e2 i b hgi
          obtain ⟨id',u',xs',k1,_,k2⟩:=hget4 _ _ _ e2 j b' hgj
          obtain ⟨_,g3⟩:=hmem _ _ _ _ g1
          obtain ⟨_,k3⟩:=hmem _ _ _ _ k1
          simp only [Nat.sub_zero] at g3 k3
          simp only [g3,k3,Option.bind_some] at hli hlj
          refine hiH.inj id id' _ _ l l' g2 k2 ?_ hli hlj hn hn'
          rintro rfl
          obtain ⟨q1,q2⟩:=List.getElem?_eq_some_iff.1 g3
          obtain ⟨q3,q4⟩:=List.getElem?_eq_some_iff.1 k3
          exact hne ((List.getElem?_inj q1 hex).1 (g3.trans k3.symm))
      · have one : ∀ (t : Nat) (c : AV U El), r7 (du ex 0) (aK st'.t t) = some c → Rel X.E S' (fun m => (ex[m]?).bind ρ') w' c (a'.tmps.getD t undef) := by
          intro t c hc
          have hrt:=hiT t
          generalize a'.tmps.getD t undef=q at hrt ⊢
          unfold r7 at hc
          split at hc
          · rename_i id e
            rw [e] at hrt
            split at hc
            · rename_i p hp
              cases hc
              obtain ⟨_,_,g⟩:=pu _ _ _ _ hp
              simp only [Nat.sub_zero] at g
              cases hrt with
              | ful _ cap l hl h1 h2=>exact .ful _ cap l (by simp [g,hl]) h1 h2
              | fulN _ l hl h1 h2=>exact .fulN _ l (by simp [g,hl]) h1 h2
            · cases hc
          · rename_i cs' e
            rw [e] at hrt
            cases hall:cs'.all AV.cell with
            | false=>rw [hall] at hc; cases hc
            | true =>
              rw [hall] at hc
              cases hc
              cases hrt with
              | agg _ vs' hl hrel'=>exact .agg _ _ hl fun i c v hci hvi=>(hrel' i c v hci hvi).cellρ hX.u (by simp at hall; exact hall c (List.mem_of_getElem? hci))
          · cases hcell : (aK st'.t t).cell with
            | false=>rw [hcell] at hc; cases hc
            | true=>rw [hcell] at hc; cases hc; exact hrt.cellρ hX.u hcell
        have all:∀ (l:List Nat) (ds:List (AV U El)),q7 (du ex 0) (l.map (aK st'.t))=some ds→ds.length=l.length∧∀ (i:Nat) d t,ds[i]? = some d→l[i]? = some t→Rel X.E S' (fun m=>(ex[m]?).bind ρ') w' d (a'.tmps.getD t undef):=by
          intro l
          induction l with
          | nil=>intro ds h; simp [q7] at h; subst h; simp
          | cons t l ih =>
            intro ds h
            simp only [List.map_cons,q7] at h
            split at h
            · rename_i d hd
              split at h
              · rename_i ds' hds'
                cases h
                obtain ⟨g1,g2⟩:=ih ds' hds'
                refine ⟨by simp [g1],fun i d' t' hd' ht' => ?_⟩
                cases i with
                | zero=>simp at hd' ht'; subst hd' ht'; exact one _ _ hd
                | succ i=>exact g2 i d' t' (by simpa using hd') (by simpa using ht')
              · cases h
            · cases h
        obtain ⟨g1,g2⟩:=all res cs e1
        match hrs:res,g1 with
        | [t], g1 =>
          obtain ⟨c,rfl⟩:∃ c,cs=[c]:=by
            match cs,g1 with
            | [c],_=>exact ⟨c,rfl⟩
          rw [e3 c rfl]
          exact g2 0 c t rfl rfl
        | [], g1 =>
          have:cs=[]:=List.eq_nil_of_length_eq_zero g1
          subst this
          rw [e4 (by simp)]
          exact .tup _ _ (by simp) (by simp)
        | t :: u :: l, g1 =>
          have hne:∀ x,cs≠[x]:=fun x hx=>by subst hx; simp at g1
          rw [e4 hne]
          refine .tup _ _ (by simp [g1]) fun i c v hc hv => ?_
          have hl:i < (t :: u :: l).length:=by rw [← g1]; exact (List.getElem?_eq_some_iff.1 hc).1
          have:v=a'.tmps.getD ((t :: u :: l)[i]) undef:=by
            simp only [List.getElem?_toArray,List.getElem?_map,List.getElem?_eq_getElem hl,Option.map_some,Option.some.injEq] at hv
            exact hv.symm
          rw [this]
          exact g2 i c _ hc (List.getElem?_eq_getElem hl)
    have hret2:∀ st' a' w',StRel X (eN w) S w st' a' w'→bD X X.nt lds X.nt st' (fun st=>aX nm st (aQ res ex))=some (v,h)→a'.defers=[]∧∃ x,(results fn a'.tmps).run P w' = .ok x w'∧∃ v' S' ρ',Ending.returned x = .returned v'∧Step S (fun _=>none) w S' ρ' w'∧HRel X.E S' ρ' w' (eN w) h∧Rel X.E S' ρ' w' v v':=by
      rintro st' a' w' ⟨S1,ρ1,hi⟩ hr
      obtain ⟨vals,st2,l1,l2,l3,l4,l5⟩:=eO lds X st' a' hX hi (Nat.le_refl _) hr
      obtain ⟨st3,n1,n2⟩:=dJ l4 ⟨S1,ρ1,l5⟩ l2
      exact ⟨hi.defers,_,fw hres hi.size l1 l3,hret { X with nt:=X.nt+lds.length } st3 _ w' rfl n1 n2⟩
    exact kO (r:=(v,h)) hX hM body n _ _ _ _ _ _ _ hret2 (fun i st' a' w' hs hr=>by cases hr) hret2 h0 hv
theorem sD (nt:Nat):lD nt []=ResultVar.tmp:=by
  funext r
  unfold lD
  split<;>rfl
theorem aq {f:FuncId} {fn:Func} {body:Code} {n:Ann U} {nm:Norm U} {res ex:List Nat} {args:List (AV U El)} {v:AV U El} {h:az U El} (hX:CtxOk P X) (hM:MOk P X) (hcall:∀ as w,(callFunc f as).run P w = .ok (.enter f as) w)
    (hf:P.funcs[f]? = some fn) (hb:fn.body=some body) (hnt:fn.ntmps=X.nt) (hres:fn.results=(res.map ResultVar.tmp).toArray) (hargs:args.length≤X.nt) (hex:ex.Nodup) (h4:(h.map (·.1)).all (fun i=>Nat.blt i 4)=true)
    (hv:bl X body n nm res ex args=some (v,h)):ar P X.E f args v h :=
  cG (lds:=[]) hX hM hcall hf hb hnt (by rw [sD]; exact hres) hargs hex h4 hv
theorem ct {E:Univ U El} {t:TypeId} {i:TypeInfo} {z:Value} {u:U} (hi:P.info? t=some i) (hs:i.size=E.sz u) (hb:i.bytes=E.by_ u) (hz:i.zero=some z) (hzs:z.cells.size=E.sz u) (he:E.enc u (E.dflt u)=constAV.constL z.cells.toList) :
    ∃ i z, P.info? t = some i ∧ i.size = E.sz u ∧ i.bytes = E.by_ u ∧ i.zero = some z ∧ z.cells.size = E.sz u ∧
      ∀ (j:Nat) c,(E.enc u (E.dflt u))[j]? = some c→∃ v,z.cells[j]? = some v∧∀ S ρ w,Rel E S ρ w c v :=
  ⟨i,z,hi,hs,hb,hz,hzs,fun j c hj=>by
    rw [he] at hj
    have hl:j < z.cells.toList.length:=by rw [← fo (U:=U) (El:=El)]; exact (List.getElem?_eq_some_iff.1 hj).1
    exact ⟨_,by rw [← Array.getElem?_toList]; exact List.getElem?_eq_getElem hl,fun S ρ w=>fm _ j c _ hj (List.getElem?_eq_getElem hl)⟩⟩
abbrev Sp (U:Type) (El:U→Type):=List (AV U El)→(AV U El→az U El→Option (Fin U El))→Option (Fin U El)
structure SpOk (P:Program) (E:Univ U El) (f:FuncId) (sp:Sp U El):Prop where
  det:∀ vs,∃ oo:Option (AV U El×az U El),∀ k,sp vs k=oo.bind fun p=>k p.1 p.2
  ok:∀ vs k r,sp vs k=some r→∃ res ex,ar P E f vs res ex∧k res ex=some r
def aN:List (FuncId×Sp U El)→FuncId→Sp U El
  | [],_=>fun _ _=>none
  | (g,sp) :: l,f=>bif Nat.beq g f then sp else aN l f
theorem l7 {E:Univ U El}:∀ (l:List (FuncId×Sp U El)),(∀ p∈l,SpOk P E p.1 p.2)→∀ f,SpOk P E f (aN l f):=by
  intro l
  induction l with
  | nil=>intro _ f; exact ⟨fun vs=>⟨none,fun k=>rfl⟩,fun vs k r h=>by cases h⟩
  | cons p l ih =>
    intro h f
    obtain ⟨g,sp⟩:=p
    simp only [aN]
    by_cases e:g=f
    · subst e; rw [Nat.beq_refl]; exact h (g,sp) (by simp)
    · rw [ah e]; exact ih (fun p hp=>h p (by simp [hp])) f
structure TabOk (P:Program) (E:Univ U El) (tds:List (TypeId×TD U)) (zeros:List (TypeId×Value)) (eqs:List (TypeId×List Nat)):Prop where
  mixed:P.follows .mixedOrders=true
  u:UGood P E
  td:∀ t d,aV tds t=some d→oW P E t d
  z:∀ t v,jY zeros t=some v→∃ i,P.info? t=some i∧i.zero=some v
  one:∀ t td,aV tds t=some td→∃ i,P.info? t=some i∧(agT P t=false→i.size=1)
  eq:∀ t,gG eqs t≠[]→uZ P t (gG eqs t)
def aG:List (FuncId×MSp U El)→FuncId→Option (MSp U El)
  | [],_=>none
  | (g,sp) :: l,f=>bif Nat.beq g f then some sp else aG l f
theorem pw {E:Univ U El}:∀ (l:List (FuncId×MSp U El)),(∀ p∈l,lV P E p.1 p.2)→∀ f sp,aG l f=some sp→lV P E f sp:=by
  intro l
  induction l with
  | nil=>intro _ f sp h; cases h
  | cons p l ih =>
    intro h f sp hs
    obtain ⟨g,q⟩:=p
    simp only [aG] at hs
    by_cases e:g=f
    · subst e; rw [Nat.beq_refl] at hs; cases hs; exact h (g,sp) (by simp)
    · rw [ah e] at hs; exact ih (fun p hp=>h p (by simp [hp])) f sp hs
theorem bc {E:Univ U El} {tds:List (TypeId×TD U)} {zeros:List (TypeId×Value)} {eqs:List (TypeId×List Nat)} {l:List (FuncId×Sp U El)} {ds:List (FuncId×MSp U El)} {fuel nt:Nat} {m:FuncId→Option (Nat→List (AV U El)→St U El→(AV U El→St U El→Option (Fin U El))→Option (Fin U El))} (hT:TabOk P E tds zeros eqs) (hl:∀ p∈l,SpOk P E p.1 p.2) (hd:∀ p∈ds,lV P E p.1 p.2):CtxOk P ⟨E,tds,zeros,eqs,aN l,fuel,nt,aG ds,m⟩ :=
  ⟨hT.mixed,hT.u,hT.td,hT.z,hT.one,hT.eq,fun f vs=>(l7 l hl f).det vs,pw ds hd,fun f vs k r h=>(l7 l hl f).ok vs k r h⟩
theorem sE {tds:List (TypeId×TD U)} {Q:TypeId→TD U→Prop} (h:∀ p∈tds,Q p.1 p.2):∀ t d,aV tds t=some d→Q t d:=by
  induction tds with
  | nil=>intro t d hd; cases hd
  | cons p l ih =>
    intro t d hd
    obtain ⟨j,e⟩:=p
    simp only [aV] at hd
    by_cases hj:j=t
    · subst hj; rw [Nat.beq_refl] at hd; cases hd; exact h (j,d) (by simp)
    · rw [ah hj] at hd; exact ih (fun p hp=>h p (by simp [hp])) t d hd
theorem vO {zs:List (TypeId×Value)} {Q:TypeId→Value→Prop} (h:∀ p∈zs,Q p.1 p.2):∀ t d,jY zs t=some d→Q t d:=by
  induction zs with
  | nil=>intro t d hd; cases hd
  | cons p l ih =>
    intro t d hd
    obtain ⟨j,e⟩:=p
    simp only [jY] at hd
    by_cases hj:j=t
    · subst hj; rw [Nat.beq_refl] at hd; cases hd; exact h (j,d) (by simp)
    · rw [ah hj] at hd; exact ih (fun p hp=>h p (by simp [hp])) t d hd
theorem vP {es:List (TypeId×List Nat)} {Q:TypeId→List Nat→Prop} (h:∀ p∈es,Q p.1 p.2):∀ t,gG es t≠[]→Q t (gG es t):=by
  induction es with
  | nil=>intro t hd; exact absurd rfl hd
  | cons p l ih =>
    intro t hd
    obtain ⟨j,e⟩:=p
    simp only [gG] at hd ⊢
    by_cases hj:j=t
    · subst hj; rw [Nat.beq_refl]; exact h (j,e) (by simp)
    · rw [ah hj] at hd ⊢; exact ih (fun p hp=>h p (by simp [hp])) t hd
end
end Go.Proofs.YtnofdcckddfooaaGreatDoor

namespace Go.Proofs.YtnofdcckddfooaaGreatDoor
set_option linter.unusedVariables false
set_option linter.unusedSectionVars false
set_option linter.unusedSimpArgs false
def cdp:List Nat→Code→Code
  | [],c=>c
  | 0 :: p,.seq a _=>cdp p a
  | 1 :: p,.seq _ b=>cdp p b
  | 0 :: p,.cond _ a _=>cdp p a
  | 1 :: p,.cond _ _ b=>cdp p b
  | 0 :: p,.block _ b=>cdp p b
  | 0 :: p,.loop b=>cdp p b
  | _,_ => .skip
section
variable {U:Type} {El:U→Type} {P:Program} {E:Univ U El}
def ve : Option Value → Bool
  | some (.agg cs) => match cs.toList with
    | [.pointer none,.slice none 0 0]=>true
    | _=>false
  | _=>false
theorem uf {z:Option Value} (h:ve z=true):z=some (.agg #[.pointer none,.slice none 0 0]):=by
  unfold ve at h
  split at h
  · rename_i cs
    split at h
    · rename_i e; congr 2; apply Array.ext'; simpa using e
    · cases h
  · cases h
def vg:Option Value→Bool
  | some (.pointer none)=>true
  | _=>false
theorem ug {z:Option Value} (h:vg z=true):z=some (.pointer none):=by
  unfold vg at h
  split at h
  · rfl
  · cases h
def sF (P : Program) (E : Univ U El) (t : TypeId) (td : TD U) : Bool :=
  (match P.info? t with | some i=>agT P t||Nat.beq i.size 1 | none=>false) &&
  match P.underlying t,td with
  | some d,.one => !(agD d)
  | some .bool,.bool=>true
  | some (.pointer _),.ptr=>true
  | some (.interface _),.iface=>true
  | some (.int k),.int k'=>decide (k=k')
  | some .string,.str=>true
  | some (.slice e),.slice u=>Nat.beq e (E.tid u)
  | some (.map k e),.map u v=>Nat.beq k (E.tid u)&&Nat.beq e (E.tid v)
  | some (.map k e), .amap u => Nat.beq k (E.tid u) && (match P.underlying e, P.info? e with
    | some (.pointer _),some i=>vg i.zero
    | _,_=>false)
  | some (.struct fields), .struct fs sz =>
    (match P.info? t with | some i=>Nat.beq i.size sz&&(match i.zero with | some z=>Nat.beq z.cells.size sz | none=>false) | none=>false) &&
    !(P.stoodInHeld t) && !(P.eqGuardType P.depth t)&&decide (fs=fields.toList.map (fun f=>(f.offset,szT P f.type,agT P f.type))) &&
    fields.toList.all fun f=>(P.underlying f.type).isSome&&(match P.info? f.type with | some i => !(Nat.beq i.size 0) | none=>false)
  | some _,.bld u=>Nat.beq (E.sz u) 1&&(match P.info? t with | some i=>Nat.beq i.size 2&&ve i.zero | none=>false)
  | some (.array n e), .arr n' es ea sz =>
    Nat.beq n n'&&(match P.info? t with | some i=>Nat.beq i.size sz&&(match i.zero with | some z=>Nat.beq z.cells.size sz | none=>false) | none=>false) &&
    (match P.info? e with | some i=>Nat.beq i.size es | none=>false)&&(match P.underlying e with | some d=>agD d == ea | none=>false)
  | _,_=>false
theorem nY {t : TypeId} {td : TD U} (h : sF P E t td = true) : oW P E t td ∧ ∃ i, P.info? t = some i ∧ (agT P t = false → i.size = 1) := by
  unfold sF at h
  rw [Bool.and_eq_true] at h
  obtain ⟨h0,h⟩:=h
  refine ⟨?_,?_⟩
  · split at h
    · rename_i d hu; exact ⟨d,hu,by simpa using h⟩
    · rename_i hu; exact hu
    · rename_i e hu; exact ⟨e,hu⟩
    · rename_i e hu; exact ⟨e,hu⟩
    · rename_i k k' hu; have : k = k' := by simpa using h
      subst this; exact hu
    · rename_i hu; exact hu
    · rename_i e u hu; have := Nat.eq_of_beq_eq_true h
      subst this; exact hu
    · rename_i k e u v hu
      simp only [Bool.and_eq_true] at h
      have h1:=Nat.eq_of_beq_eq_true h.1
      have h2:=Nat.eq_of_beq_eq_true h.2
      subst h1 h2; exact hu
    · rename_i k e u hu
      simp only [Bool.and_eq_true] at h
      have h1:=Nat.eq_of_beq_eq_true h.1
      subst h1
      have h2:=h.2
      split at h2
      · rename_i e' i hue hi
        exact ⟨e,e',hu,hue,i,hi,ug h2⟩
      · cases h2
    · rename_i fields fs sz hu
      simp only [Bool.and_eq_true,Bool.not_eq_true',decide_eq_true_eq] at h
      obtain ⟨⟨⟨⟨h1,h2⟩,h3⟩,h4⟩,h5⟩:=h
      refine ⟨fields,hu,?_,h2,h3,h4,fun f hf => ?_⟩
      · split at h1
        · rename_i i hi
          simp only [Bool.and_eq_true] at h1
          obtain ⟨e1,e2⟩:=h1
          split at e2
          · rename_i z hz; exact ⟨i,hi,Nat.eq_of_beq_eq_true e1,z,hz,Nat.eq_of_beq_eq_true e2⟩
          · cases e2
        · cases h1
      · have := List.all_eq_true.1 h5 f hf
        simp only [Bool.and_eq_true] at this
        obtain ⟨e1,e2⟩:=this
        refine ⟨Option.isSome_iff_exists.1 e1,?_⟩
        split at e2
        · rename_i i hi; exact ⟨i,hi,fun e=>by rw [e] at e2; cases e2⟩
        · cases e2
    · rename_i d u hu
      simp only [Bool.and_eq_true] at h
      obtain ⟨h1,h2⟩:=h
      split at h2
      · rename_i i hi
        simp only [Bool.and_eq_true] at h2
        exact ⟨Nat.eq_of_beq_eq_true h1,⟨d,hu⟩,i,hi,Nat.eq_of_beq_eq_true h2.1,uf h2.2⟩
      · cases h2
    · rename_i n e n' es ea sz hu
      simp only [Bool.and_eq_true] at h
      obtain ⟨⟨⟨h1,h2⟩,h3⟩,h4⟩:=h
      obtain rfl:=Nat.eq_of_beq_eq_true h1
      refine ⟨e,hu,?_,?_,?_⟩
      · split at h2
        · rename_i i hi
          simp only [Bool.and_eq_true] at h2
          obtain ⟨e1,e2⟩:=h2
          split at e2
          · rename_i z hz; exact ⟨i,hi,Nat.eq_of_beq_eq_true e1,z,hz,Nat.eq_of_beq_eq_true e2⟩
          · cases e2
        · cases h2
      · split at h3
        · rename_i i hi; exact ⟨i,hi,Nat.eq_of_beq_eq_true h3⟩
        · cases h3
      · split at h4
        · rename_i d hd; exact ⟨d,hd,by simpa using h4⟩
        · cases h4
    · cases h
  · split at h0
    · rename_i i hi
      refine ⟨i,hi,fun he => ?_⟩
      rw [he] at h0
      exact Nat.eq_of_beq_eq_true (by simpa using h0)
    · cases h0
def nZ (P:Program) (t:TypeId) (ts:List Nat):Bool :=
  match P.underlying t with
  | some (.struct fields) => !(P.stoodInHeld t) && !(P.eqGuardType P.depth t)&&Nat.beq fields.toList.length ts.length &&
      (fields.toList.zip ts).zipIdx.all fun ((f, k), i) => !(f.name == "_") && Nat.beq f.offset i && (match k, P.underlying f.type with
        | 0,some (.int _)=>true
        | 1,some .bool=>true
        | 2,some .string=>true
        | _,_=>false)
  | some (.array n e) => !(P.eqGuardType P.depth t)&&(P.info? e).isSome&&Nat.beq (P.cellsOf e) 1&&(match ts with
      | k :: _ => decide (ts = List.replicate n k) && (match k, P.underlying e with
        | 0,some (.int _)=>true
        | 1,some .bool=>true
        | 2,some .string=>true
        | _,_=>false)
      | []=>false)
  | _=>false
theorem kQ {t:TypeId} {ts:List Nat} (h:nZ P t ts=true):uZ P t ts:=by
  unfold nZ at h
  split at h
  · rename_i fields hu
    simp only [Bool.and_eq_true,Bool.not_eq_true'] at h
    obtain ⟨⟨⟨h1,h2⟩,h3⟩,h4⟩:=h
    refine .inl ⟨fields,hu,h1,h2,Nat.eq_of_beq_eq_true h3,fun i f k hf hk => ?_⟩
    have hz:((f,k),i)∈(fields.toList.zip ts).zipIdx:=by
      rw [List.mem_zipIdx_iff_getElem?]
      simp [List.getElem?_zip_eq_some,hf,hk]
    have:=List.all_eq_true.1 h4 _ hz
    simp only [Bool.and_eq_true,Bool.not_eq_true'] at this
    obtain ⟨⟨e1,e2⟩,e3⟩:=this
    refine ⟨by simpa using e1,Nat.eq_of_beq_eq_true e2,?_⟩
    split at e3
    · rename_i kd hk'; exact ⟨kd,hk'⟩
    · rename_i hk'; exact hk'
    · rename_i hk'; exact hk'
    · cases e3
  · rename_i n e hu
    simp only [Bool.and_eq_true,Bool.not_eq_true'] at h
    obtain ⟨⟨⟨h1,h2⟩,h3⟩,h4⟩:=h
    obtain ⟨ie,hi⟩:=Option.isSome_iff_exists.1 h2
    split at h4
    · rename_i k ts'
      simp only [Bool.and_eq_true,decide_eq_true_eq] at h4
      refine .inr ⟨n,e,ie,k,hu,hi,Nat.eq_of_beq_eq_true h3,h1,h4.1,?_⟩
      have h5:=h4.2
      split at h5
      · rename_i kd hk'; exact ⟨kd,hk'⟩
      · rename_i hk'; exact hk'
      · rename_i hk'; exact hk'
      · cases h5
    · cases h4
  · cases h
theorem vQ [DecidableEq U] {tds:List (TypeId×TD U)} {zeros:List (TypeId×Value)} {eqs:List (TypeId×List Nat)} (hm:P.follows .mixedOrders=true) (hu:UGood P E) (ht:(tds.all fun p=>sF P E p.1 p.2)=true)
    (hz:∀ p∈zeros,∃ i,P.info? p.1=some i∧i.zero=some p.2) (he:(eqs.all fun p=>nZ P p.1 p.2)=true):TabOk P E tds zeros eqs :=
  ⟨hm,hu,sE fun p hp=>(nY (List.all_eq_true.1 ht p hp)).1,vO hz,sE fun p hp=>(nY (List.all_eq_true.1 ht p hp)).2,vP fun p hp=>kQ (List.all_eq_true.1 he p hp)⟩
end
end Go.Proofs.YtnofdcckddfooaaGreatDoor

namespace Go.Proofs.YtnofdcckddfooaaGreatDoor
set_option linter.unusedVariables false
set_option linter.unusedSectionVars false
set_option linter.unusedSimpArgs false
open Go.RowKit Go.Lib
section
variable {U:Type} {El:U→Type} {P:Program} {X:Ctx U El} {S S0:Nat→Prop} {ρ:Rho} {w w0:World} [DecidableEq U]
variable {a:Act} {st:St U El} {B:Bd} {d:Nat} {r:Fin U El}
theorem rl {n:String} {k:IntKind} {zs:List Int} {w w':World} (h:TabIs P w n k zs) (hb:Below w.heap.size w w'):TabIs P w' n k zs:=by
  unfold TabIs World.var? at h ⊢
  cases hg:P.globalNamed n with
  | none=>rw [hg] at h; cases h
  | some g =>
    rw [hg] at h
    simp only [Option.bind_some] at h ⊢
    have hlt:g < w.heap.size:=by
      rcases Nat.lt_or_ge g w.heap.size with h' | h'
      · exact h'
      · rw [Array.getElem?_eq_none h'] at h; cases h
    rw [hb.block g hlt]
    exact h
structure ByteU (E:Univ U El) (u:U) (mk:List UInt8→List (El u)) (un:List (El u)→List UInt8):Prop where
  sz:E.sz u=1
  by_:E.by_ u=1
  len:∀ s,(mk s).length=s.length
  enc:∀ (s:List UInt8) (i:Nat),i < s.length→∃ y,(mk s)[i]? = some y∧E.enc u y=[.int .u8 (s.getD i 0).toNat]
  lenU:∀ xs,(un xs).length=xs.length
  encU:∀ (xs:List (El u)) (i:Nat) (y:El u),xs[i]? = some y→∃ b:UInt8,(un xs)[i]? = some b∧E.enc u y=[.int .u8 b.toNat]
theorem mU (s:List UInt8) (i:Nat) (h:i < s.length):(strCells ⟨s.toArray⟩)[i]? = some (.int .u8 (s.getD i 0).toNat):=by
  simp [strCells,h,List.getD]
theorem jM {u : U} {mk : List UInt8 → List (El u)} {un : List (El u) → List UInt8} {xs : List (El u)} {s : List UInt8} {sv : Value} {ty sty ot : TypeId} {old : Option Nat} (hu : UGood P X.E) (hb8 : ByteU X.E u mk un) (hB : ∀ k, w.heap.size ≤ k → B.own k) (hlt : ∀ b, S b → b < w.heap.size)
    (hty:P.underlying ty=some (.slice (X.E.tid u))) (hsty:P.underlying sty=some .string)
    (hs:(sv = .slice none 0 0∧xs=[]∧old=none)∨∃ l cap,sv = .slice (some ⟨l.b,0,none⟩) xs.length cap∧old=(if l.n=0 then none else some l.b)∧cap * X.E.sz u≤l.n∧xs.length≤cap∧0 < cap∧BlkRel X.E S ρ w B l (.rows u xs))
    (hm:xs.length+s.length≤140737488355328) :
    ∃ v' w' l',(Builtin.append_ #[ty,sty] ot #[sv,.string ⟨s.toArray⟩]).run P w = .ok v' w'∧AppRes X S ρ B w u (xs++mk s) old v' w' l'∧(∀ ao n,v' ≠ .slice (some ao) n 0):=by
  obtain ⟨ie,z,hi,hsz,hby,hz,hzs,_⟩:=hu.info u
  have hse:X.E.sz u=1:=hb8.sz
  have hbe:X.E.by_ u=1:=hb8.by_
  have hss:(⟨s.toArray⟩:ByteArray).size=s.length:=by simp [ByteArray.size]
  have hcells:strCells ⟨s.toArray⟩=s.map (fun b=>Value.int .u8 b.toNat):=by simp [strCells]
  have hcl:(strCells ⟨s.toArray⟩).length=s.length:=by simp [strCells]
  have hnr:∀ (i:Nat) y (j:Nat) c,(mk s)[i]? = some y→(X.E.enc u y)[j]? = some c→∃ v,(strCells ⟨s.toArray⟩)[i * X.E.sz u+j]? = some v∧Rel X.E S ρ w c v:=fun i y j c hi hj=>by
    have hil:i < s.length:=by rw [← hb8.len]; exact (List.getElem?_eq_some_iff.1 hi).1
    obtain ⟨y',h1,h2⟩:=hb8.enc s i hil
    rw [hi] at h1; cases h1
    rw [h2] at hj
    match j,hj with
    | 0, hj =>
      cases hj
      exact ⟨_,by rw [hse,Nat.mul_one,Nat.add_zero]; exact mU s i hil,.int _ _⟩
  have hXe:CtxOk P X→True:=fun _=>trivial
  have rowsapp:∀ {vx:List Value} {c:Array Value} {w':World} {ρ':Rho},(∀ k,S k→w'.heap[k]? = w.heap[k]?)→vx.length=xs.length * X.E.sz u →
      (∀ (i:Nat) y (j:Nat) c,xs[i]? = some y→(X.E.enc u y)[j]? = some c→∃ v,vx[i * X.E.sz u+j]? = some v∧Rel X.E S ρ w c v) →
      (∀ (j:Nat) v,(vx++strCells ⟨s.toArray⟩)[j]? = some v→c[j]? = some v) →
      ∀ (i:Nat) y (j:Nat) e,(xs++mk s)[i]? = some y→(X.E.enc u y)[j]? = some e→∃ v,c[i * X.E.sz u+j]? = some v∧Rel X.E S ρ' w' e v:=by
    intro vx c w' ρ' hS hlx hx hc i y j e hi hj
    have fin:∀ v,Rel X.E S ρ w e v→Rel X.E S ρ' w' e v:=fun v h=>(h.mono (ρ':=ρ) (fun _ h=>h) hS (fun _ _ h=>h)).cellρ hu (hu.cell u y e (List.mem_of_getElem? hj))
    by_cases h:i < xs.length
    · rw [List.getElem?_append_left h] at hi
      obtain ⟨v,hv,hr⟩:=hx i y j e hi hj
      exact ⟨v,hc _ v (by rw [List.getElem?_append_left ((List.getElem?_eq_some_iff.1 hv).1)]; exact hv),fin v hr⟩
    · rw [List.getElem?_append_right (by omega)] at hi
      obtain ⟨v,hv,hr⟩:=hnr _ y j e hi hj
      have hjl:j < X.E.sz u:=by rw [← hu.len u y]; exact (List.getElem?_eq_some_iff.1 hj).1
      refine ⟨v,hc _ v ?_,fin v hr⟩
      rw [List.getElem?_append_right (by rw [hlx,hse]; omega),← hv]
      congr 1
      rw [hlx,hse]
      omega
  have hns:¬ S w.heap.size:=fun h=>by have:=hlt _ h; omega
  have grown:∀ (vx:List Value) (old:Option Nat) (sc:Nat),sc < xs.length+s.length→vx.length=xs.length * X.E.sz u→(∀ (i:Nat) y (j:Nat) c,xs[i]? = some y→(X.E.enc u y)[j]? = some c→∃ v,vx[i * X.E.sz u+j]? = some v∧Rel X.E S ρ w c v) →
      AppRes X S ρ B w u (xs++mk s) old (.slice (some ⟨w.heap.size,0,none⟩) (xs.length+s.length) (grownCap w (xs.length+s.length) sc (X.E.tid u)))
        (w.drew.alloc (.cells (vx.toArray++(strCells ⟨s.toArray⟩).toArray++Builtin.zeroCells z.cells (grownCap w (xs.length+s.length) sc (X.E.tid u) - (xs.length+s.length))) (X.E.tid u)))
        ⟨w.heap.size,grownCap w (xs.length+s.length) sc (X.E.tid u) * X.E.sz u,X.E.sz u,xs.length+s.length⟩∧(∀ ao n,(Value.slice (some ⟨w.heap.size,0,none⟩) (xs.length+s.length) (grownCap w (xs.length+s.length) sc (X.E.tid u))) ≠ .slice (some ao) n 0):=by
    intro vx old sc hsc hvl hvr
    have hge:=grownCap_ge w (xs.length+s.length) sc (X.E.tid u)
    refine ⟨⟨rfl,rfl,rfl,by simp,Nat.le_succ _,fun k hk _=>heap_alloc_old w.drew _ k hk,fun _ => .inr (Nat.le_refl _),fun ρ'=>⟨rfl,by simp [hb8.len],by simp only [List.length_append,hb8.len]; exact Nat.mul_le_mul_right _ hge,fun _=>⟨hB _ (Nat.le_refl _),hns,_,heap_alloc_new w.drew _,?_,?_⟩⟩,.inl ⟨_,rfl,Nat.le_refl _,hge⟩⟩,fun ao n h => ?_⟩
    · simp only [Array.size_append, List.size_toArray, size_zeroCells, hzs, hvl, hcl, hse]
      omega
    · refine rowsapp (fun k hk => heap_alloc_old w.drew _ k (hlt k hk)) hvl hvr (fun j v hj => ?_)
      rw [← Array.getElem?_toList]
      simp only [Array.toList_append]
      rw [List.getElem?_append_left (List.getElem?_eq_some_iff.1 hj).1]
      exact hj
    · injection h with _ _ h3
      omega
  rcases hs with ⟨rfl,rfl,rfl⟩ | ⟨l,cap,rfl,rfl,hcap,hle,hc0,hblk⟩
  · by_cases h0 : s.length = 0
    · have hs0 : s = [] := List.eq_nil_of_length_eq_zero h0
      subst hs0
      have hmk:mk []=[]:=List.eq_nil_of_length_eq_zero (by rw [hb8.len]; rfl)
      refine ⟨.slice none 0 0,w,⟨0,0,X.E.sz u,0⟩,?_,⟨rfl,rfl,rfl,Nat.le_refl _,Nat.le_refl _,fun _ _ _=>rfl,fun h=>absurd rfl h,fun ρ'=>⟨rfl,by simp [hmk],by simp [hmk],fun h=>absurd rfl h⟩,.inr ⟨rfl,rfl,rfl⟩⟩,fun _ _ h=>by simp at h⟩
      have hf:=run_firstCells_string (P:=P) w 1 ⟨([]:List UInt8).toArray⟩
      simp only [ByteArray.size,List.size_toArray,List.length_nil] at hf
      simp [Builtin.append_,run_underlying hty,run_underlying hsty,sizeOf,typeInfo,hi,hsz,hse,Builtin.lenOf,ByteArray.size,hf]
    · have hr := run_append_nil_string (P := P) w ty sty ot (X.E.tid u) ie z hty hsty hi hz ⟨s.toArray⟩ (by rw [hss]; omega) (by rw [hss]; simp at hm; omega) (by rw [hss, hby, hbe]; simp at hm; omega)
      have hg:=grown [] none 0 (by simp; omega) (by simp) (by simp)
      simp only [List.length_nil,Nat.zero_add,Array.empty_append] at hg
      rw [hss] at hr
      have e1:((⟨s.toArray⟩:ByteArray).data.map fun b=>Value.int .u8 b.toNat)=(strCells ⟨s.toArray⟩).toArray:=by
        apply Array.ext'
        simp [strCells]
      rw [e1] at hr
      exact ⟨_,_,_,hr,hg⟩
  · have hn : l.n ≠ 0 := by rw [hse] at hcap; omega
    have hblk':=hblk
    obtain ⟨h1,h2,h3,h4⟩:=hblk
    obtain ⟨h5,h6,cur,hh,h7,h8⟩:=h4 hn
    by_cases hroom:xs.length+s.length≤cap
    · have hfit : xs.length + s.length ≤ cur.size := by rw [h7]; rw [hse] at hcap; omega
      have hr:=run_append_room_string (P:=P) w ty sty ot (X.E.tid u) ie hty hsty hi (by rw [hsz,hse]) l.b xs.length cap cur hh ⟨s.toArray⟩ (by rw [hss]; exact hroom) (by rw [hss]; exact hfit)
      rw [hss] at hr
      refine ⟨_,_,⟨l.b,l.n,X.E.sz u,xs.length+s.length⟩,hr,⟨rfl,rfl,rfl,by simp,Nat.le_refl _,fun k hk hne=>setRow_other w l.b k _ (fun e=>hne (by rw [e,if_neg hn])),fun _ => .inl (by rw [if_neg hn]),fun ρ'=>⟨rfl,by simp [hb8.len],?_,fun _=>⟨h5,h6,_,setRow_heap w l.b cur _ _ _ hh,?_,?_⟩⟩,.inl ⟨cap,rfl,hcap,hroom⟩⟩,fun ao n h => ?_⟩
      · simp only [List.length_append, hb8.len, hse]
        rw [hse] at hcap
        omega
      · simp [hcl]; omega
      · have hlx : (cur.toList.take xs.length).length = xs.length * X.E.sz u := by simp [hse]; omega
        refine rowsapp (fun k hk=>setRow_other w l.b k _ (by rintro rfl; exact h6 hk)) hlx (fun i y j c hi hj => ?_) (fun j v hj => ?_)
        · obtain ⟨v, hv, hr⟩ := h8 i y j c hi hj
          have hil:i < xs.length:=(List.getElem?_eq_some_iff.1 hi).1
          have hjl:j < X.E.sz u:=by rw [← hu.len u y]; exact (List.getElem?_eq_some_iff.1 hj).1
          rw [hse] at hjl
          refine ⟨v,?_,hr⟩
          rw [List.getElem?_take_of_lt (by rw [hse]; omega)]
          simpa using hv
        · rw [List.getElem?_toArray, List.getElem?_append_left (List.getElem?_eq_some_iff.1 hj).1]
          exact hj
      · injection h with _ _ h3
        omega
    · have hsh : ∃ vx : List Value, vx.length = xs.length * X.E.sz u ∧ (∀ j v, vx[j]? = some v → w.cell? ((⟨l.b, 0, none⟩ : Addr).add j) = some v) ∧ (∀ (i : Nat) y (j : Nat) c, xs[i]? = some y → (X.E.enc u y)[j]? = some c → ∃ v, vx[i * X.E.sz u + j]? = some v ∧ Rel X.E S ρ w c v) := by
        have hxl:xs.length≤cur.size:=by rw [h7]; rw [hse] at hcap; omega
        refine ⟨cur.toList.take xs.length,by simp [hse]; omega,fun j v hj => ?_,fun i y j c hi hj => ?_⟩
        · rw [bP, Nat.zero_add, cell_of_row w l.b _ cur _ (0, 0) hh]
          rw [List.getElem?_take] at hj
          split at hj
          · simpa using hj
          · cases hj
        · obtain ⟨v, hv, hr⟩ := h8 i y j c hi hj
          have hil:i < xs.length:=(List.getElem?_eq_some_iff.1 hi).1
          have hjl:j < X.E.sz u:=by rw [← hu.len u y]; exact (List.getElem?_eq_some_iff.1 hj).1
          rw [hse] at hjl
          refine ⟨v,?_,hr⟩
          rw [List.getElem?_take_of_lt (by rw [hse]; omega)]
          simpa using hv
      obtain ⟨vx,g1,g2,g4⟩:=hsh
      have hr:=run_append_grow_string (P:=P) w ty sty ot (X.E.tid u) ie z hty hsty hi hz ⟨l.b,0,none⟩ xs.length cap vx (by rw [hsz]; exact g1) g2 ⟨s.toArray⟩ (by rw [hss]; omega) (by rw [hss]; omega) (by rw [hss,hby,hbe]; exact growslice_fits (by omega) (by omega))
      rw [hss] at hr
      exact ⟨_,_,_,hr,grown vx _ cap (by omega) g1 g4⟩
theorem wpList_append_run {ops:Array Oper} {rest:List Oper} {o:Oper} {Q:Exit→Act→World→Prop} (hgd:o.guard=none) (sl x:Operand) (t u:TypeId)
    (ho:o.op = .call { callee := .builtin .append,args:=#[sl,x],argTypes:=#[t,u] }) {v v':Value} {w':World} {s:ByteArray} (hs:a.eval sl=v) (hx:a.eval x = .string s)
    (hr:(Builtin.append_ #[t,u] o.type #[v,.string s]).run P w = .ok v' w') (h:wpList P ops Q rest (a.put o.dst v') w'):wpList P ops Q (o :: rest) a w:=by
  refine wpList_plain hgd fun K hK => ?_
  unfold Oper.wp execOp
  simp only [ho,resolve,invoke,builtin,Sem.run_bind,Sem.run_pure,Result.andThen_ok,List.map_toArray,List.map_cons,List.map_nil,hs,hx,hr]
  exact hK _ _ h
abbrev SpM (U:Type) (El:U→Type):=Nat→List (AV U El)→St U El→(AV U El→St U El→Option (Fin U El))→Option (Fin U El)
def gy:List (FuncId×SpM U El)→FuncId→Option (SpM U El)
  | [],_=>none
  | (g,sp) :: l,f=>bif Nat.beq g f then some sp else gy l f
theorem g8:∀ (l:List (FuncId×SpM U El)),(∀ p∈l,dm P X p.1 p.2)→∀ g sp,gy l g=some sp→dm P X g sp:=by
  intro l
  induction l with
  | nil=>intro _ g sp h; cases h
  | cons p l ih =>
    intro h g sp hg
    obtain ⟨f,q⟩:=p
    simp only [gy] at hg
    by_cases e:f=g
    · subst e; rw [Nat.beq_refl] at hg; cases hg; exact h (f,sp) (by simp)
    · rw [ah e] at hg; exact ih (fun p hp=>h p (by simp [hp])) g sp hg
theorem Inv.bldWrite (hX : CtxOk P X) {id j : Nat} {T : TypeId} {u : U} {xs zs : List (El u)} {lb lj l' : Loc} {v' : Value} {w' : World} (hi : Inv X B S0 w0 S ρ st a w) (hne : id ≠ j) (hg : ac st.h id = some (.bld T j)) (hgj : ac st.h j = some (.rows u xs)) (hlb : ρ id = some lb) (hlj : ρ j = some lj)
    (hos:w'.os=w.os) (htape:w'.tape=w.tape) (hout:w'.output=w.output) (hsize:w.heap.size≤w'.heap.size) (hdrawn:w.drawn≤w'.drawn) (hblock:∀ k,k < w.heap.size→k≠lb.b→(lj.n≠0→k≠lj.b)→w'.heap[k]? = w.heap[k]?)
    (hself:w'.heap[lb.b]? = some (.cells #[.pointer (some ⟨lb.b,0,none⟩),v'] T (0,0))) (hat:l'.n≠0→(lj.n≠0∧l'.b=lj.b)∨w.heap.size≤l'.b) (hblk:∀ ρ',BlkRel X.E S ρ' w' B l' (.rows u zs))
    (hval:(∃ cap,v' = .slice (some ⟨l'.b,0,none⟩) l'.ln cap∧cap * l'.s≤l'.n∧l'.ln≤cap∧0 < cap)∨(v' = .slice none 0 0∧l'.n=0∧l'.ln=0)) :
    Inv X B S0 w0 S ((ρ.del j).set j l') ⟨(st.forget j).t,(id,.bld T j) :: (j,.rows u zs) :: eL (st.forget j).h id⟩ a w':=by
  have hj:=hi.forget hX j
  obtain ⟨lb',e1,hbl⟩:=hi.heap.get _ _ hg
  rw [hlb] at e1; cases e1
  obtain ⟨lj',e2,hbj⟩:=hi.heap.get _ _ hgj
  rw [hlj] at e2; cases e2
  obtain ⟨n2,hBb,hnS,_⟩:=hbl
  have hbn:lb.n≠0:=by omega
  have hblt:=(BlkRel.lt (b:=Blk.bld T j) ⟨n2,hBb,hnS,‹_›⟩ hbn).1
  have sepj:lj.n≠0→lb.b≠lj.b:=fun h=>hi.heap.inj id j _ _ lb lj hg hgj hne hlb hlj hbn h
  have hjn:(ρ.del j) j=none:=by simp [Rho.del]
  have hS:∀ b,S b→w'.heap[b]? = w.heap[b]? := fun b hb=>hblock b (hi.heap.lt b hb) (by rintro rfl; exact hnS hb) (fun hn=>by rintro rfl; exact (hbj.lt hn).2.2 hb)
  have hext:∀ i l,(ρ.del j) i=some l→((ρ.del j).set j l') i=some l:=fun i l h=>by
    by_cases e:i=j
    · subst e; rw [hjn] at h; cases h
    · simp [Rho.set,e,h]
  have eid:((ρ.del j).set j l') id=some lb:=hext id lb (by simp [Rho.del,hne,hlb])
  have ej:((ρ.del j).set j l') j=some l':=by simp [Rho.set]
  have old:∀ i b,ac (eL (st.forget j).h id) i=some b→i≠id∧i≠j∧(∃ b0,ac st.h i=some b0)∧∃ l,ρ i=some l∧(ρ.del j) i=some l∧BlkRel X.E S (ρ.del j) w B l b:=fun i b h=>by
    rw [bE] at h
    split at h
    · cases h
    · rename_i e
      obtain ⟨l,hl,hb⟩:=hj.heap.get i b h
      have h':=h
      simp only [St.forget,cd,bE,Option.map_eq_some_iff] at h'
      obtain ⟨b0,hb0,_⟩:=h'
      split at hb0
      · cases hb0
      · rename_i e'
        exact ⟨e,e',⟨b0,hb0⟩,l,by simpa [Rho.del,e'] using hl,hl,hb⟩
  have keep:∀ i b l,ac (eL (st.forget j).h id) i=some b→(ρ.del j) i=some l→l.n≠0→w'.heap[l.b]? = w.heap[l.b]? ∧ l.b≠lb.b∧(lj.n≠0→l.b≠lj.b)∧l.b < w.heap.size∧¬ S l.b:=fun i b l h hl hn=>by
    obtain ⟨e,e',⟨b0,hb0⟩,l2,hl2,hl3,hb⟩:=old i b h
    rw [hl] at hl3; cases hl3
    have c1:l.b≠lb.b:=hi.heap.inj i id b0 _ l lb hb0 hg e hl2 hlb hn hbn
    have c2:lj.n≠0→l.b≠lj.b:=fun hn2=>hi.heap.inj i j b0 _ l lj hb0 hgj e' hl2 hlj hn hn2
    exact ⟨hblock _ (hb.lt hn).1 c1 c2,c1,c2,(hb.lt hn).1,(hb.lt hn).2.2⟩
  refine ⟨hi.defers,hi.size,hi.below.trans ⟨hos,htape,hout,hsize,hdrawn,fun k hk hbk => ?_⟩,fun k hk=>hi.hB k (Nat.le_trans hsize hk),hi.s0,hi.s1,hi.g0,fun i=>(hj.tmps i).mono (fun _ h=>h) hS hext,⟨fun i b hgi => ?_,fun i i' b b' l l2 hgi hgi' hii hli hli' hn hn2 => ?_,fun b hb=>Nat.lt_of_lt_of_le (hi.heap.lt b hb) hsize⟩⟩
  · exact hblock k hk (by rintro rfl; exact hbk hBb) (fun hn=>by rintro rfl; exact hbk (hbj.lt hn).2.1)
  · simp only [ac] at hgi
    by_cases e:id=i
    · subst e
      rw [Nat.beq_refl] at hgi
      cases hgi
      refine ⟨lb,eid,n2,hBb,hnS,_,v',hself,.inr rfl,fun ao n h => ?_,?_⟩
      · rcases hval with ⟨cap, rfl, _, _, h0⟩ | ⟨rfl, _⟩
        · injection h with _ _ h3; omega
        · simp at h
      · rcases hval with ⟨cap, rfl, h1, h2, _⟩ | ⟨rfl, h1, h2⟩
        · exact .ful j cap l' ej h1 h2
        · exact .fulN j l' ej h1 h2
    · rw [ah e] at hgi
      simp only [cond] at hgi
      by_cases e':j=i
      · subst e'
        rw [Nat.beq_refl] at hgi
        cases hgi
        exact ⟨l',ej,hblk _⟩
      · rw [ah e'] at hgi
        simp only [cond] at hgi
        obtain ⟨_,_,_,l,_,hl,hb⟩:=old i b hgi
        exact ⟨l,hext i l hl,hb.mono (fun _ h=>h) hS hext fun hn=>⟨(keep i b l hgi hl hn).1,(hb.lt hn).2.2⟩⟩
  · 
    have kind:∀ i b l,ac ((id,Blk.bld T j) :: (j,Blk.rows u zs) :: eL (st.forget j).h id) i=some b→((ρ.del j).set j l') i=some l→(i=id∧l=lb)∨(i=j∧l=l')∨(i≠id∧i≠j∧ac (eL (st.forget j).h id) i=some b∧(ρ.del j) i=some l):=fun i b l h hl=>by
      simp only [ac] at h
      by_cases e:id=i
      · subst e; rw [eid] at hl; cases hl; exact .inl ⟨rfl,rfl⟩
      · rw [ah e] at h
        simp only [cond] at h
        by_cases e':j=i
        · subst e'; rw [ej] at hl; cases hl; exact .inr (.inl ⟨rfl,rfl⟩)
        · rw [ah e'] at h
          simp only [cond] at h
          exact .inr (.inr ⟨Ne.symm e,Ne.symm e',h,by simpa [Rho.set,Ne.symm e'] using hl⟩)
    have sepN:l'.n≠0→l'.b≠lb.b:=fun h=>by
      rcases hat h with ⟨h1,h2⟩ | h1
      · rw [h2]; exact (sepj h1).symm
      · omega
    have sepO:∀ i b l,ac (eL (st.forget j).h id) i=some b→(ρ.del j) i=some l→l.n≠0→l'.n≠0→l.b≠l'.b:=fun i b l h hl hn hn'=>by
      obtain ⟨_,c1,c2,c3,_⟩:=keep i b l h hl hn
      rcases hat hn' with ⟨h1,h2⟩ | h1
      · rw [h2]; exact c2 h1
      · omega
    rcases kind i b l hgi hli with ⟨rfl,rfl⟩ | ⟨rfl,rfl⟩ | ⟨k1,k2,k3,k4⟩<;>rcases kind i' b' l2 hgi' hli' with ⟨rfl,rfl⟩ | ⟨rfl,rfl⟩ | ⟨m1,m2,m3,m4⟩
    · exact absurd rfl hii
    · exact (sepN hn2).symm
    · exact (keep _ _ _ m3 m4 hn2).2.1.symm
    · exact sepN hn
    · exact absurd rfl hii
    · exact (sepO _ _ _ m3 m4 hn2 hn).symm
    · exact (keep _ _ _ k3 k4 hn).2.1
    · exact sepO _ _ _ k3 k4 hn hn2
    · obtain ⟨_, _, ⟨b1, hb1⟩, _, r1, r2, _⟩ := old i b k3
      obtain ⟨_,_,⟨b2,hb2⟩,_,r3,r4,_⟩:=old i' b' m3
      rw [k4] at r2; cases r2
      rw [m4] at r4; cases r4
      exact hi.heap.inj i i' b1 b2 l l2 hb1 hb2 hii r1 r3 hn hn2
structure SameBut (g:Option Nat) (w w':World):Prop where
  os:w'.os=w.os
  tape:w'.tape=w.tape
  output:w'.output=w.output
  size:w'.heap.size=w.heap.size
  drawn:w.drawn≤w'.drawn
  block:∀ k,some k≠g→w'.heap[k]? = w.heap[k]?
theorem SameBut.drew (w:World) (g:Option Nat):SameBut g w w.drew:=⟨rfl,rfl,rfl,rfl,Nat.le_succ _,fun _ _=>rfl⟩
theorem SameBut.freeze {w:World} (g n:Nat):SameBut (some g) w (w.drew.freeze ⟨g,0,none⟩ n):=by
  unfold World.freeze
  split
  · exact SameBut.drew w _
  · exact ⟨rfl,rfl,rfl,Array.size_modify,Nat.le_succ _,fun k hk=>by
      simp only [Array.getElem?_modify]
      rw [if_neg (by intro e; exact hk (by rw [e]))]
      rfl⟩
structure SameAt (Q:Nat→Prop) (w w':World):Prop where
  os:w'.os=w.os
  tape:w'.tape=w.tape
  output:w'.output=w.output
  size:w.heap.size≤w'.heap.size
  drawn:w.drawn≤w'.drawn
  block:∀ k,k < w.heap.size→¬ Q k→w'.heap[k]? = w.heap[k]?
theorem SameBut.mono {g:Option Nat} {Q:Nat→Prop} {w':World} (h:SameBut g w w') (hq:∀ k,some k=g→Q k):SameAt Q w w' :=
  ⟨h.os,h.tape,h.output,Nat.le_of_eq h.size.symm,h.drawn,fun k _ hk=>h.block k (fun e=>hk (hq k e))⟩
theorem Inv.add {s : Nat} {u : U} {xs : List (El u)} {l : Loc} (hi : Inv X B S0 w0 S ρ st a w) (hs : ρ s = none) (hb : ∀ ρ', BlkRel X.E S ρ' w B l (.rows u xs))
    (hsep:∀ j b l',ac st.h j=some b→ρ j=some l'→l'.n≠0→l.n≠0→l'.b≠l.b):Inv X B S0 w0 S (ρ.set s l) ⟨st.t,(s,.rows u xs) :: st.h⟩ a w:=by
  have e1:(ρ.set s l) s=some l:=by simp [Rho.set]
  have hext:∀ j l',ρ j=some l'→(ρ.set s l) j=some l':=fun j l' h=>by
    by_cases e:j=s
    · subst e; rw [hs] at h; cases h
    · simp [Rho.set,e,h]
  refine ⟨hi.defers,hi.size,hi.below,hi.hB,hi.s0,hi.s1,hi.g0,fun i=>(hi.tmps i).mono (fun _ h=>h) (fun _ _=>rfl) hext,⟨fun j b hg => ?_,fun i j b b' l1 l2 hgi hgj hne hli hlj hn1 hn2 => ?_,hi.heap.lt⟩⟩
  · simp only [ac] at hg
    by_cases e:s=j
    · subst e; rw [Nat.beq_refl] at hg; cases hg; exact ⟨l,e1,hb _⟩
    · rw [ah e] at hg
      obtain ⟨l',h1,h2⟩:=hi.heap.get j b hg
      exact ⟨l',hext j l' h1,h2.mono (fun _ h=>h) (fun _ _=>rfl) hext (fun hn=>⟨rfl,(h2.lt hn).2.2⟩)⟩
  · simp only [ac] at hgi hgj
    by_cases ei:s=i
    · subst ei
      rw [e1] at hli; cases hli
      rw [ah hne] at hgj
      have hlj':ρ j=some l2:=by simpa [Rho.set,Ne.symm hne] using hlj
      exact (hsep j b' l2 hgj hlj' hn2 hn1).symm
    · rw [ah ei] at hgi
      have hli':ρ i=some l1:=by simpa [Rho.set,Ne.symm ei] using hli
      by_cases ej:s=j
      · subst ej
        rw [e1] at hlj; cases hlj
        exact hsep i b l1 hgi hli' hn1 hn2
      · rw [ah ej] at hgj
        have hlj':ρ j=some l2:=by simpa [Rho.set,Ne.symm ej] using hlj
        exact hi.heap.inj i j b b' l1 l2 hgi hgj hne hli' hlj' hn1 hn2
theorem Inv.quit (hX:CtxOk P X) {j:Nat} {bj:Blk U El} {lj:Loc} {w':World} (hi:Inv X B S0 w0 S ρ st a w) (hgj:ac st.h j=some bj) (hlj:ρ j=some lj) (hs:SameAt (fun k=>lj.n≠0∧k=lj.b) w w') :
    Inv X B S0 w0 S (ρ.del j) (st.forget j) a w':=by
  have hj:=hi.forget hX j
  obtain ⟨lj',e2,hbj⟩:=hi.heap.get _ _ hgj
  rw [hlj] at e2; cases e2
  have hS:∀ b,S b→w'.heap[b]? = w.heap[b]? := fun b hb=>hs.block b (hi.heap.lt b hb) (fun ⟨hn,e⟩=>by subst e; exact (hbj.lt hn).2.2 hb)
  refine ⟨hi.defers,hi.size,hi.below.trans ⟨hs.os,hs.tape,hs.output,hs.size,hs.drawn,fun k hk hbk=>hs.block k hk (fun ⟨hn,e⟩=>hbk (by rw [e]; exact (hbj.lt hn).2.1))⟩,fun k hk=>hi.hB k (Nat.le_trans hs.size hk),hi.s0,hi.s1,hi.g0,fun i=>(hj.tmps i).mono (fun _ h=>h) hS (fun _ _ h=>h),⟨fun i b h => ?_,hj.heap.inj,fun b hb=>Nat.lt_of_lt_of_le (hi.heap.lt b hb) hs.size⟩⟩
  obtain ⟨l,hl,hb⟩:=hj.heap.get i b h
  refine ⟨l,hl,hb.mono (fun _ h=>h) hS (fun _ _ h=>h) fun hn=>⟨hs.block _ (hb.lt hn).1 (fun ⟨hn',e⟩ => ?_),(hb.lt hn).2.2⟩⟩
  simp only [St.forget,cd,bE,Option.map_eq_some_iff] at h
  obtain ⟨b0,hb0,_⟩:=h
  split at hb0
  · cases hb0
  · rename_i e'
    exact hi.heap.inj i j b0 bj l lj hb0 hgj e' (by simpa [Rho.del,e'] using hl) hlj hn hn' e
end
end Go.Proofs.YtnofdcckddfooaaGreatDoor

namespace Go.Proofs.YtnofdcckddfooaaGreatDoor
set_option linter.unusedVariables false
set_option linter.unusedSectionVars false
set_option linter.unusedSimpArgs false
open Go.RowKit
section
variable {U:Type} {El:U→Type} {P:Program} {E:Univ U El} {S:Nat→Prop} {ρ:Rho} {w:World}
theorem jN {u : U} {d : TypeDesc} (ha : E.agg u = false) (hd : P.underlying (E.tid u) = some d) (hk : ∀ {S : Nat → Prop} {ρ : Rho} {w : World} {x : El u} {v : Value}, ERel E S ρ w u x v → MapKept.IsKey d v)
    (hq:∀ {S:Nat→Prop} {ρ:Rho} {w:World} {x y:El u} {v v':Value},ERel E S ρ w u x v→ERel E S ρ w u y v'→(v=v'↔E.keq u x y=true)):KeyOk P E u where
  check:=fun em h=>MapKept.run_checkKey hd (hk h) em 9999
  find := fun {S ρ w x v} es xs hx hl hes => by
    have key:∀ (es:List MapEntry) (xs:List (El u)) (n:Nat),es.length=xs.length→(∀ (i:Nat) e y,es[i]? = some e→xs[i]? = some y→ERel E S ρ w u y e.key) →
        Instr.findNow d v es n=some ((cH (E.keq u) xs x).bind fun i=>(es[i]?).map fun e=>(n+i,e.val)):=by
      intro es
      induction es with
      | nil =>
        intro xs n hl _
        have:xs=[]:=List.eq_nil_of_length_eq_zero (by simpa using hl.symm)
        subst this; rfl
      | cons e es ih =>
        intro xs n hl hes
        cases xs with
        | nil=>simp at hl
        | cons y xs =>
          have hy:=hes 0 e y rfl rfl
          obtain ⟨r,hr,hiff⟩:=MapKept.sameNow_of_keys (hk hx) (hk hy)
          have hq':=hq hx hy
          simp only [Instr.findNow,hr,cH]
          cases r with
          | true =>
            rw [hq'.1 (hiff.1 rfl)]
            simp
          | false =>
            have:E.keq u x y=false:=by
              cases h:E.keq u x y
              · rfl
              · have:=hiff.2 (hq'.2 h); cases this
            rw [this]
            simp only [cond_false]
            rw [ih xs (n+1) (by simpa using hl) (fun i e y he hy=>hes (i+1) e y (by simpa using he) (by simpa using hy))]
            cases cH (E.keq u) xs x with
            | none=>rfl
            | some i=>simp [Nat.add_assoc,Nat.add_comm 1 i]
    have:=key es xs 0 hl hes
    simp only [Nat.zero_add] at this
    exact MapKept.run_findKey hd this
  stays:=fun {S ρ w x y v v'} hx hy h=>by
    have:=(hq hx hy).2 h
    subst this
    exact MapKept.run_keyThatStays (hk hx)
theorem l8 {ts : List Nat} : ∀ {cx cy : List (AV U El)} {ax ay : List Value}, bo ts cx cy = some true → ax.length = cx.length → ay.length = cy.length → (∀ (i : Nat) c v, cx[i]? = some c → ax[i]? = some v → Rel E S ρ w c v) → (∀ (i : Nat) c v, cy[i]? = some c → ay[i]? = some v → Rel E S ρ w c v) →
    ax=ay∧∀ v∈ax,∀ n,Instr.sameBits n v v=true:=by
  induction ts with
  | nil =>
    intro cx cy ax ay h h1 h2 _ _
    unfold bo at h
    split at h<;>simp_all
  | cons k ts ih =>
    intro cx cy ax ay h h1 h2 hx hy
    have step:∀ (c c':AV U El) (x y:List (AV U El)),cx=c :: x→cy=c' :: y→∃ v vs v' vs',ax=v :: vs∧ay=v' :: vs'∧Rel E S ρ w c v∧Rel E S ρ w c' v'∧(bo ts x y=some true→vs=vs'∧∀ v∈vs,∀ n,Instr.sameBits n v v=true):=by
      intro c c' x y e1 e2
      subst e1 e2
      cases ax with
      | nil=>simp at h1
      | cons v vs =>
        cases ay with
        | nil=>simp at h2
        | cons v' vs' =>
          exact ⟨v,vs,v',vs',rfl,rfl,hx 0 c v rfl rfl,hy 0 c' v' rfl rfl,fun h=>ih h (by simpa using h1) (by simpa using h2) (fun i c v hc hv=>hx (i+1) c v (by simpa using hc) (by simpa using hv)) (fun i c v hc hv=>hy (i+1) c v (by simpa using hc) (by simpa using hv))⟩
    unfold bo at h
    split at h
    · cases ‹k :: ts=[]›
    · rename_i ts' ka av x kb bv y e
      cases e
      obtain ⟨v,vs,v',vs',rfl,rfl,r1,r2,hs⟩:=step _ _ _ _ rfl rfl
      cases r1; cases r2
      cases hd:decide (ka=kb) with
      | false=>rw [hd] at h; cases h
      | true =>
        rw [hd] at h
        have hk:ka=kb:=by simpa using hd
        subst hk
        simp only [cond_true] at h
        split at h
        · rename_i r hr
          simp only [Option.some.injEq,Bool.and_eq_true,beq_iff_eq] at h
          obtain ⟨rfl,rfl⟩:=h
          obtain ⟨g1,g2⟩:=hs hr
          subst g1
          refine ⟨rfl,fun v hv n => ?_⟩
          rcases List.mem_cons.1 hv with rfl | hv
          · cases n<;>simp [Instr.sameBits]
          · exact g2 v hv n
        · cases h
    · rename_i ts' av x bv y e
      cases e
      obtain ⟨v,vs,v',vs',rfl,rfl,r1,r2,hs⟩:=step _ _ _ _ rfl rfl
      cases r1; cases r2
      split at h
      · rename_i r hr
        simp only [Option.some.injEq,Bool.and_eq_true,beq_iff_eq] at h
        obtain ⟨rfl,rfl⟩:=h
        obtain ⟨g1,g2⟩:=hs hr
        subst g1
        refine ⟨rfl,fun v hv n => ?_⟩
        rcases List.mem_cons.1 hv with rfl | hv
        · cases n<;>simp [Instr.sameBits]
        · exact g2 v hv n
      · cases h
    · rename_i ts' av x bv y e
      cases e
      obtain ⟨v,vs,v',vs',rfl,rfl,r1,r2,hs⟩:=step _ _ _ _ rfl rfl
      cases r1; cases r2
      split at h
      · rename_i r hr
        simp only [Option.some.injEq,Bool.and_eq_true,beq_iff_eq] at h
        obtain ⟨rfl,rfl⟩:=h
        obtain ⟨g1,g2⟩:=hs hr
        subst g1
        refine ⟨rfl,fun v hv n => ?_⟩
        rcases List.mem_cons.1 hv with rfl | hv
        · exact MapKept.sameBits_self (d := .string) (k := .string _) trivial n
        · exact g2 v hv n
      · cases h
    · cases h
theorem j4 {cs : Array Value} {n : Nat} {em : Bool} : ∀ (fs : List Field), (∀ f ∈ fs, f.name ≠ "_" ∧ (∃ k, gV P f.type k) ∧ ∃ v, cs[f.offset]? = some v) →
    (forIn (m:=Sem) fs PUnit.unit fun f _=>do
      if f.name ≠ "_" then Instr.checkKey em (n + 1) f.type (← part f.type cs f.offset)
      pure (ForInStep.yield PUnit.unit)).run P w = .ok PUnit.unit w:=by
  intro fs
  induction fs with
  | nil=>intro _; simp
  | cons f fs ih =>
    intro h
    obtain ⟨h1,⟨k,hk⟩,v,hv⟩:=h f (by simp)
    have hp:∀ {d:TypeDesc},P.underlying f.type=some d→agD d=false→(part f.type cs f.offset).run P w = .ok v w:=fun hu ha=>by simp [part,bS hu,ha,hv]
    have hc:(Instr.checkKey em (n+1) f.type v).run P w = .ok () w∧(part f.type cs f.offset).run P w = .ok v w:=by
      match k,hk with
      | 0,⟨kd,hu⟩=>exact ⟨by unfold Instr.checkKey; simp only [Sem.run_bind,run_underlying hu,Result.andThen_ok]; cases v<;>rfl,hp hu rfl⟩
      | 1,hu=>exact ⟨by unfold Instr.checkKey; simp only [Sem.run_bind,run_underlying (show P.underlying f.type=some .bool from hu),Result.andThen_ok]; cases v<;>rfl,hp hu rfl⟩
      | k+2,hu=>exact ⟨by unfold Instr.checkKey; simp only [Sem.run_bind,run_underlying (show P.underlying f.type=some .string from hu),Result.andThen_ok]; cases v<;>rfl,hp hu rfl⟩
    simp only [List.forIn_cons,Sem.run_bind,h1,ne_eq,not_false_eq_true,if_true,hc.1,hc.2,Result.andThen_ok,Sem.run_pure]
    exact ih fun f hf=>h f (by simp [hf])
theorem rm [DecidableEq U] {X:Ctx U El} {t:TypeId} {ts:List Nat} {cx cy:List (AV U El)} {ax ay:Array Value} {b:Bool} (hX:X.E=E) (hk:qp P t ts) (hx:dW E S ρ w cx ax) (hy:dW E S ρ w cy ay) (h:bo ts cx cy=some b):(Op.equal t (.agg ax) (.agg ay)).run P w = .ok b w:=by
  subst hX
  obtain ⟨fields,hu,hst,heq,hl,hf⟩:=hk
  have hfo:P.fieldsOf t=fields:=by simp [Program.fieldsOf,hu]
  show (Op.equalIn (9999+1) t (.agg ax) (.agg ay)).run P w = .ok b w
  rw [run_equalIn_agg w 9999 t ax ay (by rw [hfo]; exact hu) hst,hfo]
  exact jG (X:=X) (P:=P) (S:=S) (ρ:=ρ) (w:=w) (ty:=t) ts cx cy 0 fields.toList ax ay b (fun i f k hf1 hk1=>by simpa using hf i f k hf1 hk1) hl (fun i c hc=>by
      have hi:i < ax.size:=by rw [hx.1]; exact (List.getElem?_eq_some_iff.1 hc).1
      exact ⟨ax[i],by simp [hi],hx.2 i c _ hc (Array.getElem?_eq_getElem hi)⟩) (fun i c hc=>by
      have hi:i < ay.size:=by rw [hy.1]; exact (List.getElem?_eq_some_iff.1 hc).1
      exact ⟨ay[i],by simp [hi],hy.2 i c _ hc (Array.getElem?_eq_getElem hi)⟩) h 9998
theorem mV [DecidableEq U] {u : U} {ts : List Nat} (ha : E.agg u = true) (hk : qp P (E.tid u) ts) (hsz : ts.length = E.sz u) (hlen : ∀ x, (E.enc u x).length = E.sz u) (hq : ∀ x y, bo ts (E.enc u x) (E.enc u y) = some (E.keq u x y)) : KeyOk P E u := by
  have hag:∀ {S:Nat→Prop} {ρ:Rho} {w:World} {x:El u} {v:Value},ERel E S ρ w u x v→∃ vs,v = .agg vs∧dW E S ρ w (E.enc u x) vs:=fun h=>by
    unfold ERel at h
    rwa [if_pos ha] at h
  refine ⟨fun {S ρ w x v} em h => ?_,fun {S ρ w x v} es xs hx hl hes => ?_,fun {S ρ w x y v v'} hx hy h => ?_⟩
  · obtain ⟨vs, rfl, hr⟩ := hag h
    obtain ⟨fields,hu,hst,heq,hl,hf⟩:=hk
    rw [show (10000:Nat)=9998+1+1 from rfl,Instr.checkKey]
    simp only [Sem.run_bind,run_underlying hu,Result.andThen_ok]
    have:=j4 (P:=P) (w:=w) (cs:=vs) (n:=9998) (em:=em) fields.toList (fun f hfm=>by
      obtain ⟨i,hi⟩:=List.getElem?_of_mem hfm
      have hil:i < ts.length:=by rw [← hl]; exact (List.getElem?_eq_some_iff.1 hi).1
      obtain ⟨g1,g2,g3⟩:=hf i f _ hi (List.getElem?_eq_getElem hil)
      have hv:i < vs.size:=by rw [hr.1,hlen,← hsz]; exact hil
      exact ⟨g1,⟨_,g3⟩,vs[i],by rw [g2]; simp [hv]⟩)
    simp only [← Array.forIn_toList]
    simp at this ⊢
    simp [this]
  · obtain ⟨vs, rfl, hr⟩ := hag hx
    have hwide:(match P.underlying (E.tid u) with | some (.array _ _) | some (.struct _)=>true | _=>false)=true:=by
      obtain ⟨fields,hu,_⟩:=hk
      rw [hu]
    rw [run_findKey_eq _ hwide]
    have key:∀ (es:List MapEntry) (xs:List (El u)) (n:Nat),es.length=xs.length→(∀ (i:Nat) e y,es[i]? = some e→xs[i]? = some y→ERel E S ρ w u y e.key) →
        (Instr.findAsking (E.tid u) (.agg vs) es n).run P w = .ok ((cH (E.keq u) xs x).bind fun i=>(es[i]?).map fun e=>(n+i,e.val)) w:=by
      intro es
      induction es with
      | nil =>
        intro xs n hl _
        have:xs=[]:=List.eq_nil_of_length_eq_zero (by simpa using hl.symm)
        subst this; simp [Instr.findAsking,cH]
      | cons e es ih =>
        intro xs n hl hes
        cases xs with
        | nil=>simp at hl
        | cons y xs =>
          obtain ⟨ws,hwe,hwr⟩:=hag (hes 0 e y rfl rfl)
          have he:=rm (X:=⟨E,[],[],[],fun _ _ _=>none,0,0,fun _=>none,fun _=>none⟩) rfl hk hr hwr (hq x y)
          simp only [Instr.findAsking,Sem.run_bind,hwe,he,Result.andThen_ok,cH]
          cases hh:E.keq u x y with
          | true=>simp
          | false =>
            simp only [Bool.false_eq_true,if_false,cond_false]
            rw [ih xs (n+1) (by simpa using hl) (fun i e y he hy=>hes (i+1) e y (by simpa using he) (by simpa using hy))]
            cases cH (E.keq u) xs x with
            | none=>rfl
            | some i=>simp [Nat.add_assoc,Nat.add_comm 1 i]
    have:=key es xs 0 hl hes
    simpa using this
  · obtain ⟨vs, rfl, hr⟩ := hag hx
    obtain ⟨ws,rfl,hr'⟩:=hag hy
    have hq':=hq x y
    rw [h] at hq'
    obtain ⟨g1,g2⟩:=l8 (ax:=vs.toList) (ay:=ws.toList) hq' (by simpa using hr.1) (by simpa using hr'.1) (fun i c v hc hv=>hr.2 i c v hc (by simpa using hv)) (fun i c v hc hv=>hr'.2 i c v hc (by simpa using hv))
    have:vs=ws:=Array.ext' g1
    subst this
    have hs:Instr.sameBits 10000 (.agg vs) (.agg vs)=true:=by
      show (vs.size == vs.size&&(vs.toList.zip vs.toList).all fun (x,y)=>Instr.sameBits 9999 x y)=true
      simp only [beq_self_eq_true,Bool.true_and,List.all_eq_true]
      rintro ⟨a,b⟩ hab
      have hab':a=b∧a∈vs.toList:=by
        obtain ⟨i,hi⟩:=List.getElem?_of_mem hab
        rw [List.getElem?_zip_eq_some] at hi
        obtain ⟨h1,h2⟩:=hi
        rw [h1] at h2; cases h2
        exact ⟨rfl,List.mem_of_getElem? h1⟩
      obtain ⟨rfl,hm⟩:=hab'
      exact g2 a hm 9999
    simp [Instr.keyThatStays,hs]
theorem kR {cs:Array Value} {e:TypeId} {i:TypeInfo} {n k:Nat} {em:Bool} (hi:P.info? e=some i) (hsz:i.size=1) (hk:gV P e k):∀ (l:List Nat),(∀ j∈l,∃ v,cs[j]? = some v) →
    (forIn (m:=Sem) l PUnit.unit fun j _=>do
      Instr.checkKey em (n+1) e (← part e cs (j * (← sizeOf e)))
      pure (ForInStep.yield PUnit.unit)).run P w = .ok PUnit.unit w:=by
  intro l
  induction l with
  | nil=>intro _; simp
  | cons j l ih =>
    intro h
    obtain ⟨v,hv⟩:=h j (by simp)
    have hp:∀ {d:TypeDesc},P.underlying e=some d→agD d=false→(part e cs j).run P w = .ok v w:=fun hu ha=>by simp [part,bS hu,ha,hv]
    have hc:(Instr.checkKey em (n+1) e v).run P w = .ok () w∧(part e cs j).run P w = .ok v w:=by
      match k,hk with
      | 0,⟨kd,hu⟩=>exact ⟨by unfold Instr.checkKey; simp only [Sem.run_bind,run_underlying hu,Result.andThen_ok]; cases v<;>rfl,hp hu rfl⟩
      | 1,hu=>exact ⟨by unfold Instr.checkKey; simp only [Sem.run_bind,run_underlying (show P.underlying e=some .bool from hu),Result.andThen_ok]; cases v<;>rfl,hp hu rfl⟩
      | k+2,hu=>exact ⟨by unfold Instr.checkKey; simp only [Sem.run_bind,run_underlying (show P.underlying e=some .string from hu),Result.andThen_ok]; cases v<;>rfl,hp hu rfl⟩
    simp only [List.forIn_cons,Sem.run_bind,cE hi,hsz,Nat.mul_one,hc.1,hc.2,Result.andThen_ok,Sem.run_pure]
    exact ih fun j hj=>h j (by simp [hj])
theorem pC [DecidableEq U] {X:Ctx U El} {t:TypeId} {ts:List Nat} {cx cy:List (AV U El)} {ax ay:Array Value} {b:Bool} (hX:X.E=E) (hk:qq P t ts) (hx:dW E S ρ w cx ax) (hy:dW E S ρ w cy ay) (h:bo ts cx cy=some b):(Op.equal t (.agg ax) (.agg ay)).run P w = .ok b w:=by
  subst hX
  obtain ⟨n,e,ie,k,hu,hi,hce,heq,hts,hk⟩:=hk
  show (Op.equalIn (9999+1) t (.agg ax) (.agg ay)).run P w = .ok b w
  rw [run_equalIn_array w 9999 ax ay hu hi,hce,List.range_eq_range']
  rw [hts] at h
  exact ip hk n cx cy 0 ax ay b (fun i c hc=>by
      have hi:i < ax.size:=by rw [hx.1]; exact (List.getElem?_eq_some_iff.1 hc).1
      exact ⟨ax[i],by simp [hi],hx.2 i c _ hc (Array.getElem?_eq_getElem hi)⟩) (fun i c hc=>by
      have hi:i < ay.size:=by rw [hy.1]; exact (List.getElem?_eq_some_iff.1 hc).1
      exact ⟨ay[i],by simp [hi],hy.2 i c _ hc (Array.getElem?_eq_getElem hi)⟩) h 9998
theorem rn [DecidableEq U] {u : U} {ts : List Nat} (ha : E.agg u = true) (hk : qq P (E.tid u) ts) (hsz : ts.length = E.sz u) (hlen : ∀ x, (E.enc u x).length = E.sz u) (hq : ∀ x y, bo ts (E.enc u x) (E.enc u y) = some (E.keq u x y)) : KeyOk P E u := by
  have hag:∀ {S:Nat→Prop} {ρ:Rho} {w:World} {x:El u} {v:Value},ERel E S ρ w u x v→∃ vs,v = .agg vs∧dW E S ρ w (E.enc u x) vs:=fun h=>by
    unfold ERel at h
    rwa [if_pos ha] at h
  refine ⟨fun {S ρ w x v} em h => ?_,fun {S ρ w x v} es xs hx hl hes => ?_,fun {S ρ w x y v v'} hx hy h => ?_⟩
  · obtain ⟨vs, rfl, hr⟩ := hag h
    obtain ⟨n,e,ie,k,hu,hi,hce,heq,hts,hk⟩:=hk
    have h1:ie.size=1:=by simpa [Program.cellsOf,hi] using hce
    rw [show (10000:Nat)=9998+1+1 from rfl,Instr.checkKey]
    simp only [Sem.run_bind,run_underlying hu,Result.andThen_ok]
    have:=kR (P:=P) (w:=w) (cs:=vs) (n:=9998) (em:=em) hi h1 hk (List.range' 0 n) (fun j hj=>by
      have hjn:j < n:=by simpa using hj
      have hv:j < vs.size:=by
        rw [hr.1,hlen,← hsz,hts]
        simpa using hjn
      exact ⟨vs[j],by simp [hv]⟩)
    simp only [Std.Legacy.Range.forIn_eq_forIn_range',Std.Legacy.Range.size]
    simp at this ⊢
    simp [this]
  · obtain ⟨vs, rfl, hr⟩ := hag hx
    have hwide:(match P.underlying (E.tid u) with | some (.array _ _) | some (.struct _)=>true | _=>false)=true:=by
      obtain ⟨n,e,ie,k,hu,_⟩:=hk
      rw [hu]
    rw [run_findKey_eq _ hwide]
    have key:∀ (es:List MapEntry) (xs:List (El u)) (n:Nat),es.length=xs.length→(∀ (i:Nat) e y,es[i]? = some e→xs[i]? = some y→ERel E S ρ w u y e.key) →
        (Instr.findAsking (E.tid u) (.agg vs) es n).run P w = .ok ((cH (E.keq u) xs x).bind fun i=>(es[i]?).map fun e=>(n+i,e.val)) w:=by
      intro es
      induction es with
      | nil =>
        intro xs n hl _
        have:xs=[]:=List.eq_nil_of_length_eq_zero (by simpa using hl.symm)
        subst this; simp [Instr.findAsking,cH]
      | cons e es ih =>
        intro xs n hl hes
        cases xs with
        | nil=>simp at hl
        | cons y xs =>
          obtain ⟨ws,hwe,hwr⟩:=hag (hes 0 e y rfl rfl)
          have he:=pC (X:=⟨E,[],[],[],fun _ _ _=>none,0,0,fun _=>none,fun _=>none⟩) rfl hk hr hwr (hq x y)
          simp only [Instr.findAsking,Sem.run_bind,hwe,he,Result.andThen_ok,cH]
          cases hh:E.keq u x y with
          | true=>simp
          | false =>
            simp only [Bool.false_eq_true,if_false,cond_false]
            rw [ih xs (n+1) (by simpa using hl) (fun i e y he hy=>hes (i+1) e y (by simpa using he) (by simpa using hy))]
            cases cH (E.keq u) xs x with
            | none=>rfl
            | some i=>simp [Nat.add_assoc,Nat.add_comm 1 i]
    have:=key es xs 0 hl hes
    simpa using this
  · obtain ⟨vs, rfl, hr⟩ := hag hx
    obtain ⟨ws,rfl,hr'⟩:=hag hy
    have hq':=hq x y
    rw [h] at hq'
    obtain ⟨g1,g2⟩:=l8 (ax:=vs.toList) (ay:=ws.toList) hq' (by simpa using hr.1) (by simpa using hr'.1) (fun i c v hc hv=>hr.2 i c v hc (by simpa using hv)) (fun i c v hc hv=>hr'.2 i c v hc (by simpa using hv))
    have:vs=ws:=Array.ext' g1
    subst this
    have hs:Instr.sameBits 10000 (.agg vs) (.agg vs)=true:=by
      show (vs.size == vs.size&&(vs.toList.zip vs.toList).all fun (x,y)=>Instr.sameBits 9999 x y)=true
      simp only [beq_self_eq_true,Bool.true_and,List.all_eq_true]
      rintro ⟨a,b⟩ hab
      have hab':a=b∧a∈vs.toList:=by
        obtain ⟨i,hi⟩:=List.getElem?_of_mem hab
        rw [List.getElem?_zip_eq_some] at hi
        obtain ⟨h1,h2⟩:=hi
        rw [h1] at h2; cases h2
        exact ⟨rfl,List.mem_of_getElem? h1⟩
      obtain ⟨rfl,hm⟩:=hab'
      exact g2 a hm 9999
    simp [Instr.keyThatStays,hs]
theorem sG {t:TypeId} {ts:List Nat} (h:nZ P t ts=true) (hs:(match P.underlying t with | some (.array _ _)=>true | _=>false)=true):qq P t ts:=by
  rcases kQ h with ⟨fields,hu,_⟩ | h
  · rw [hu] at hs; cases hs
  · exact h
theorem sH {t:TypeId} {ts:List Nat} (h:nZ P t ts=true) (hs:(match P.underlying t with | some (.struct _)=>true | _=>false)=true):qp P t ts:=by
  rcases kQ h with h | ⟨n,e,i,k,hu,_⟩
  · exact h
  · rw [hu] at hs; cases hs
theorem eZ {u:U} {c:AV U El} {x:El u} {v:Value} (ha:E.agg u=false) (he:E.enc u x=[c]) (h:ERel E S ρ w u x v):Rel E S ρ w c v:=by
  unfold ERel at h
  rw [if_neg (by simp [ha])] at h
  obtain ⟨c',h1,h2⟩:=h
  rw [he] at h1
  cases h1
  exact h2
theorem ro {u:U} (f:El u→List UInt8) (ha:E.agg u=false) (hd:P.underlying (E.tid u)=some .string) (he:∀ x,E.enc u x=[.str (f x)]) (hq:∀ x y,E.keq u x y=(f x == f y)):KeyOk P E u :=
  jN ha hd (fun h=>by cases eZ ha (he _) h; trivial) (fun {S ρ w x y v v'} h h'=>by
    have h1:=eZ ha (he _) h
    have h2:=eZ ha (he _) h'
    cases h1; cases h2
    rw [hq]
    constructor
    · intro e
      injection e with e
      injection e with e
      have:f x=f y:=by simpa using congrArg Array.toList e
      simp [this]
    · intro e
      rw [eq_of_beq e])
theorem rp {u:U} {k:IntKind} (f:El u→Int) (ha:E.agg u=false) (hd:P.underlying (E.tid u)=some (.int k)) (he:∀ x,E.enc u x=[.int k (f x)]) (hq:∀ x y,E.keq u x y=(f x == f y)):KeyOk P E u :=
  jN ha hd (fun h=>by cases eZ ha (he _) h; rfl) (fun {S ρ w x y v v'} h h'=>by
    have h1:=eZ ha (he _) h
    have h2:=eZ ha (he _) h'
    cases h1; cases h2
    rw [hq]
    constructor
    · intro e
      injection e with _ e
      simp [e]
    · intro e
      rw [eq_of_beq e])
theorem l9 {u:U} {c:AV U El} {i:TypeInfo} {z:Value} (ha:E.agg u=false) (hi:P.info? (E.tid u)=some i) (hz:i.zero=some z) (he:E.enc u (E.dflt u)=[c]) (hr:∀ S ρ w,Rel E S ρ w c z):uP P E u :=
  ⟨i,z,hi,hz,fun S ρ w=>by
    unfold ERel
    rw [if_neg (by simp [ha])]
    exact ⟨c,he,hr S ρ w⟩⟩
end
end Go.Proofs.YtnofdcckddfooaaGreatDoor

namespace Go.Proofs.YtnofdcckddfooaaGreatDoor
set_option linter.unusedVariables false
set_option linter.unusedSectionVars false
set_option linter.unusedSimpArgs false
open Go.RowKit
section
variable {U:Type} {El:U→Type} {P:Program} {X:Ctx U El} {S S0 S':Nat→Prop} {ρ ρ':Rho} {w w0 w':World} [DecidableEq U]
variable {a:Act} {st:St U El} {B:Bd} {d:Nat} {r:Fin U El}
def iw (res:List Nat) (st:St U El):Option (Fin U El) :=
  some (match res with | [t]=>(aK st.t t,st.h) | _=>(.tup (res.map (aK st.t)),st.h))
noncomputable def n4 (X:Ctx U El) (body:Code) (n:Ann U) (nm:Norm U) (lds:List (Nat×TypeId)) (res:List Nat) (hs:az U El) (args:List (AV U El)):Option (Fin U El) :=
  aj X body n ⟨dj args 0,hs⟩ (fun st=>bD X X.nt lds X.nt st fun st=>aX nm st (iw res)) (fun _ _=>none) (fun st=>bD X X.nt lds X.nt st fun st=>aX nm st (iw res))
theorem ma:∀ (l:List (AV U El)) (m i:Nat),aK (dj l m) i=if m≤i then (l[i - m]?).getD .any else .any:=by
  intro l
  induction l with
  | nil=>intro m i; simp [dj,aK]
  | cons c l ih =>
    intro m i
    simp only [dj,aK]
    by_cases e:m=i
    · subst e; simp [Nat.beq_refl]
    · rw [ah e, ih]
      simp only [cond]
      by_cases h1:m≤i
      · rw [if_pos (by omega),if_pos h1,show i - m=(i - (m+1))+1 by omega,List.getElem?_cons_succ]
      · rw [if_neg (by omega),if_neg h1]
theorem eJ {f:FuncId} {fn:Func} {body:Code} {n:Ann U} {nm:Norm U} {lds:List (Nat×TypeId)} {res:List Nat} {args:List (AV U El)} {hs h:az U El} {v:AV U El} (hX:CtxOk P X) (hM:MOk P X)
    (hf:P.funcs[f]? = some fn) (hb:fn.body=some body) (hnt:fn.ntmps=X.nt) (hres:fn.results=(res.map (lD X.nt lds)).toArray) (hargs:args.length≤X.nt)
    (hv:n4 X body n nm lds res hs args=some (v,h)):MCall P X.E f args hs v h:=by
  refine MCall.of_clean fun B S ρ w vs hdf hB hG hH hrel => ?_
  refine calls_of_wp hf hb ?_
  have hsz:(vs++Array.replicate (fn.ntmps - vs.size) undef).size=X.nt:=by
    have:=hrel.1
    simp; omega
  have h0:StRel X B S w ⟨dj args 0,hs⟩ { tmps:=vs++Array.replicate (fn.ntmps - vs.size) undef,defers:=[] } w:=by
    refine ⟨S,ρ,hdf.symm,hsz,Fr.refl _ _,hB,fun _ h=>h,fun _ h => .inl h,hG,fun i => ?_,hH⟩
    show Rel X.E S _ w (aK (dj args 0) i) _
    rw [ma]
    simp only [Nat.zero_le,if_true,Nat.sub_zero]
    cases hc:args[i]? with
    | none=>exact .any _
    | some c =>
      have hi:i < vs.size:=by rw [hrel.1]; exact (List.getElem?_eq_some_iff.1 hc).1
      simp only [Option.getD_some]
      rw [Array.getD_eq_getD_getElem?,Array.getElem?_append_left hi,Array.getElem?_eq_getElem hi]
      exact hrel.2 i c _ hc (Array.getElem?_eq_getElem hi)
  have hret:∀ (X':Ctx U El) (st':St U El) (a':Act) (w':World),X'.E=X.E→StRel X' B S w st' a' w'→iw res st'=some (v,h)→∃ v' S' ρ',Ending.returned (kP a'.tmps res) = .returned v'∧Fr B w w'∧(∀ b,S b→S' b)∧(∀ b,S' b→S b∨B.own b)∧HRel X.E S' ρ' w' B h∧Rel X.E S' ρ' w' v v':=by
    rintro X' st' a' w' hE ⟨S',ρ',hi⟩ hr
    have hiH:=hi.heap
    have hiT:=hi.tmps
    rw [hE] at hiH hiT
    refine ⟨_,S',ρ',rfl,hi.below,hi.s0,hi.s1,?_⟩
    unfold iw at hr
    match res with
    | [t] =>
      simp only [Option.some.injEq,Prod.mk.injEq] at hr
      obtain ⟨rfl,rfl⟩:=hr
      exact ⟨hiH,hiT t⟩
    | [] =>
      simp only [Option.some.injEq,Prod.mk.injEq] at hr
      obtain ⟨rfl,rfl⟩:=hr
      exact ⟨hiH,.tup _ _ rfl (by simp)⟩
    | t :: u :: l =>
      simp only [Option.some.injEq,Prod.mk.injEq] at hr
      obtain ⟨rfl,rfl⟩:=hr
      refine ⟨hiH,.tup _ _ (by simp) fun i c v hc hv => ?_⟩
      simp only [List.getElem?_map,Option.map_eq_some_iff] at hc
      obtain ⟨q,hq,rfl⟩:=hc
      simp only [List.getElem?_toArray,List.getElem?_map,hq,Option.map_some,Option.some.injEq] at hv
      subst hv
      exact hiT q
  have hret2:∀ st' a' w',StRel X B S w st' a' w'→bD X X.nt lds X.nt st' (fun st=>aX nm st (iw res))=some (v,h)→a'.defers=[]∧∃ x,(results fn a'.tmps).run P w' = .ok x w'∧∃ v' S' ρ',Ending.returned x = .returned v'∧Fr B w w'∧(∀ b,S b→S' b)∧(∀ b,S' b→S b∨B.own b)∧HRel X.E S' ρ' w' B h∧Rel X.E S' ρ' w' v v':=by
    rintro st' a' w' ⟨S1,ρ1,hi⟩ hr
    obtain ⟨vals,st2,l1,l2,l3,l4,l5⟩:=eO lds X st' a' hX hi (Nat.le_refl _) hr
    obtain ⟨st3,n1,n2⟩:=dJ l4 ⟨S1,ρ1,l5⟩ l2
    exact ⟨hi.defers.trans hdf,_,fw hres hi.size l1 l3,hret { X with nt:=X.nt+lds.length } st3 _ w' rfl n1 n2⟩
  exact kO (r:=(v,h)) hX hM body n _ _ _ _ _ _ _ hret2 (fun i st' a' w' hs hr=>by cases hr) hret2 h0 hv
def sJ (st:St U El) (ids:List Nat) (outs:List (Nat×Nat)) (pins:List Nat) (hc:az U El):St U El :=
  let st1:=st.forgets (gq ids outs pins)
  ⟨st1.t,d9 st.h hc pins outs outs++bL st1.h pins⟩
theorem mb (h:az U El) (ids:List Nat) (j:Nat):ac (bL h ids) j=if j∈ids then none else ac h j:=by
  induction ids generalizing h with
  | nil=>simp [bL]
  | cons i ids ih =>
    simp only [bL,ih,bE]
    by_cases e:j∈ids
    · simp [e]
    · by_cases e2 : j = i
      · subst e2; simp
      · simp [e,e2]
theorem n5:∀ (ids:List Nat) (ρ:Rho) (j:Nat),j ∉ ids→ρ.dels ids j=ρ j:=by
  intro ids
  induction ids with
  | nil=>intro ρ j _; rfl
  | cons i ids ih =>
    intro ρ j h
    simp only [List.mem_cons,not_or] at h
    show (ρ.del i).dels ids j=ρ j
    rw [ih _ _ h.2]
    simp [Rho.del,h.1]
theorem n7:∀ (ids:List Nat) (st:St U El) (j:Nat) (b:Blk U El),ac (st.forgets ids).h j=some b→j ∉ ids∧∃ b0,ac st.h j=some b0:=by
  intro ids
  induction ids with
  | nil=>intro st j b h; exact ⟨by simp,b,h⟩
  | cons i ids ih =>
    intro st j b h
    obtain ⟨h1,b0,h2⟩:=ih (st.forget i) j b h
    simp only [St.forget,cd,bE,Option.map_eq_some_iff] at h2
    obtain ⟨b1,h3,_⟩:=h2
    split at h3
    · cases h3
    · rename_i e
      exact ⟨by simp [e,h1],b1,h3⟩
theorem Inv.mcall {f:FuncId} {args args':List (AV U El)} {vs:Array Value} {ids pins:List Nat} {outs:List (Nat×Nat)} {hs hc:az U El} {v:AV U El} {k:AV U El→St U El→Option (Fin U El)} (hX:CtxOk P X) (hi:Inv X B S0 w0 S ρ st a w) (hr:dW X.E S ρ w args vs)
    (ha:args.map (AV.ren (dQ ids aM))=args') (haw:args.all (AV.within ids)=true) (hh:dR st.h ids ids aM=some hs) (hm:MCall P X.E f args' hs v hc) (hok:mOk hc ids outs pins v=true)
    (hk:k (v.ren (jZ outs)) (sJ st ids outs pins hc)=some r) :
    Calls P f vs w fun e w'=>∃ v res st' S' ρ',e = .returned v∧k res st'=some r∧Inv X B S0 w0 S' ρ' st' a w'∧Rel X.E S' ρ' w' res v:=by
  subst ha
  simp only [mOk,Bool.and_eq_true,decide_eq_true_eq] at hok
  obtain ⟨hnd,hn1,hn2,hvw,hbw,hpin⟩:=hok
  obtain ⟨ρc,hρc⟩:∃ ρc:Rho,ρc=fun m=>if aM≤m then (ids[m - aM]?).bind ρ else none:=⟨_,rfl⟩
  have hup:∀ j∈ids,ρc (dQ ids aM j)=ρ j:=fun j hj=>by
    obtain ⟨i,h1,h2⟩:=iv ids aM j hj
    rw [hρc,h2]
    simp [h1]
  obtain ⟨Bc,hBc⟩:∃ Bc:Bd,Bc=⟨fun k=>w.heap.size≤k∨∃ id∈ids,∃ l,ρ id=some l∧l.n≠0∧l.b=k,ρc,[]⟩:=⟨_,rfl⟩
  have hown:∀ k,Bc.own k→B.own k:=fun k hkk=>by
    rw [hBc] at hkk
    rcases hkk with h | ⟨id,hid,l,hl,hn,rfl⟩
    · exact hi.hB k h
    · obtain ⟨b, hb⟩ := dx _ _ _ hh id hid
      obtain ⟨l',hl',hbl⟩:=hi.heap.get id b hb
      rw [hl] at hl'; cases hl'
      exact (hbl.lt hn).2.1
  have hownS:∀ k,Bc.own k→¬ S k:=fun k hkk hS=>by
    rw [hBc] at hkk
    rcases hkk with h | ⟨id,hid,l,hl,hn,rfl⟩
    · have:=hi.heap.lt k hS; omega
    · obtain ⟨b, hb⟩ := dx _ _ _ hh id hid
      obtain ⟨l',hl',hbl⟩:=hi.heap.get id b hb
      rw [hl] at hl'; cases hl'
      exact (hbl.lt hn).2.2 hS
  have hHc:HRel X.E S ρc w Bc hs:=by
    refine ⟨fun m b hg => ?_,fun m m' b b' l l' hg hg' hne hl hl' hn hn' => ?_,hi.heap.lt⟩
    · obtain ⟨i, id, b0, h1, rfl, h3, h4, rfl⟩ := dw _ _ _ hh m b hg
      obtain ⟨l,hl,hbl⟩:=hi.heap.get id b0 h3
      have hmem:id∈ids:=List.mem_of_getElem? h1
      have hρl:ρc (aM+i)=some l:=by rw [hρc]; simp [h1,hl]
      exact ⟨l,hρl,hbl.ren hX.u h4 (fun j hj l' e=>by rw [hup j hj]; exact e) (fun hn=>by rw [hBc]; exact .inr ⟨id,hmem,l,hl,hn,rfl⟩) (.inr (by rw [hBc]; exact hρl))⟩
    · obtain ⟨i, id, b0, h1, rfl, h3, _⟩ := dw _ _ _ hh m b hg
      obtain ⟨i',id',b0',h1',rfl,h3',_⟩:=dw _ _ _ hh m' b' hg'
      have e1:ρ id=some l:=by rw [hρc] at hl; simpa [h1] using hl
      have e2:ρ id'=some l':=by rw [hρc] at hl'; simpa [h1'] using hl'
      refine hi.heap.inj id id' b0 b0' l l' h3 h3' (fun e=>hne ?_) e1 e2 hn hn'
      subst e
      obtain ⟨q1,q2⟩:=List.getElem?_eq_some_iff.1 h1
      have:=(List.getElem?_inj q1 hnd).1 (h1.trans h1'.symm)
      rw [this]
  have hrc:dW X.E S ρc w (args.map (AV.ren (dQ ids aM))) vs:=by
    refine ⟨by simpa using hr.1,fun i c v hc hv => ?_⟩
    simp only [List.getElem?_map,Option.map_eq_some_iff] at hc
    obtain ⟨c0,hc0,rfl⟩:=hc
    exact (hr.2 i c0 v hc0 hv).ren hX.u (List.all_eq_true.1 haw c0 (List.mem_of_getElem? hc0)) fun j hj l e=>by rw [hup j hj]; exact e
  refine (hm Bc S ρc w vs (fun k hkk=>by rw [hBc]; exact .inl hkk) (fun w' hf=>hi.g0 w' (hi.below.trans (hf.mono hown))) hHc hrc).mono ?_
  rintro e w' ⟨v',S',ρ',rfl,hfr,hs1,hs2,hH',hv'⟩
  have hF:=hi.forgets hX (gq ids outs pins)
  obtain ⟨F,hFe⟩:∃ F,F=gq ids outs pins:=⟨_,rfl⟩
  rw [← hFe] at hF
  have hFmem:∀ id,id∈F↔(id∈ids∨id∈outs.map (·.1))∧id ∉ pins:=fun id=>by
    rw [hFe]; unfold gq
    simp only [List.mem_filter,List.mem_append,Bool.not_eq_true',List.elem_eq_mem,decide_eq_false_iff_not]
  obtain ⟨ρ2,hρ2⟩:∃ ρ2:Rho,ρ2=fun id=>match fP outs id with | some j=>ρ' j | none=>(ρ.dels F) id:=⟨_,rfl⟩
  have hpins:∀ id∈pins,id∈ids∧fP outs id=some (dQ ids aM id)∧∃ cs,ac hc (dQ ids aM id)=some (.box (dQ ids aM id) cs):=fun id hid=>by
    have:=List.all_eq_true.1 hpin id hid
    simp only [Bool.and_eq_true,List.elem_eq_mem,decide_eq_true_eq] at this
    obtain ⟨h1,h2⟩:=this
    split at h2
    · rename_i j hj
      simp only [Bool.and_eq_true] at h2
      obtain ⟨h3,h4⟩:=h2
      obtain rfl:=Nat.eq_of_beq_eq_true h3
      split at h4
      · rename_i t cs hb
        obtain rfl:=Nat.eq_of_beq_eq_true h4
        exact ⟨h1,hj,cs,hb⟩
      · cases h4
    · cases h2
  have hup0:∀ id∈ids,dQ ids aM id≠0:=fun id hid=>by
    obtain ⟨i,_,h2⟩:=iv ids aM id hid
    rw [h2]; unfold aM; omega
  have hpinl:∀ id∈pins,∀ l,ρ' (dQ ids aM id)=some l→ρ id=some l:=fun id hid l hl=>by
    obtain ⟨h1,h2,cs,h3⟩:=hpins id hid
    obtain ⟨l',hl',hbl⟩:=hH'.get _ _ h3
    rw [hl] at hl'; cases hl'
    rcases hbl.1 with h | h
    · exact absurd h (hup0 id h1)
    · rw [hBc] at h
      rw [← hup id h1]; exact h
  have hpine:∀ id∈pins,∀ l,ρ id=some l→ρ' (dQ ids aM id)=some l:=fun id hid l hl=>by
    obtain ⟨h1,h2,cs,h3⟩:=hpins id hid
    obtain ⟨l',hl',_⟩:=hH'.get _ _ h3
    have:=hpinl id hid l' hl'
    rw [hl] at this; cases this
    exact hl'
  have hext:∀ id l,(ρ.dels F) id=some l→ρ2 id=some l:=fun id l h=>by
    have hnF:id ∉ F:=fun hc=>by rw [eW F ρ id (.inr hc)] at h; cases h
    rw [hρ2]
    simp only
    split
    · rename_i j hj
      have hin:id∈outs.map (·.1):=List.mem_map.2 ⟨_,kH _ _ _ hj,rfl⟩
      have hp:id∈pins:=Classical.byContradiction fun hp=>hnF ((hFmem id).2 ⟨.inr hin,hp⟩)
      obtain ⟨h1,h2,_⟩:=hpins id hp
      rw [hj] at h2; cases h2
      rw [n5 F ρ id hnF] at h
      exact hpine id hp l h
    · exact h
  have hdn:∀ j∈outs.map (·.2),∀ l,ρ' j=some l→ρ2 (jZ outs j)=some l:=fun j hj l hl=>by
    rw [hρ2]
    simp only [gx outs _ _ hn1 (nU outs j hj)]
    exact hl
  have hsame:∀ b,S b→w'.heap[b]? = w.heap[b]? := fun b hb=>hfr.block b (hi.heap.lt b hb) fun h=>hownS b h hb
  have old:∀ id b,ac (bL (st.forgets F).h pins) id=some b→id ∉ ids∧id ∉ outs.map (·.1)∧∃ b0,ac st.h id=some b0:=fun id b h=>by
    rw [mb] at h
    split at h
    · cases h
    · rename_i hp
      obtain ⟨h1,h2⟩:=n7 F st id b h
      refine ⟨fun hc=>h1 ((hFmem id).2 ⟨.inl hc,hp⟩),fun hc=>h1 ((hFmem id).2 ⟨.inr hc,hp⟩),h2⟩
  have oldget:∀ id b,ac (bL (st.forgets F).h pins) id=some b→ac (st.forgets F).h id=some b:=fun id b h=>by
    rw [mb] at h
    split at h
    · cases h
    · exact h
  have oldfree:∀ id b l,ac (bL (st.forgets F).h pins) id=some b→(ρ.dels F) id=some l→l.n≠0→l.b < w.heap.size∧¬ Bc.own l.b∧¬ S' l.b:=fun id b l h hl hn=>by
    obtain ⟨h1,h2,b0,hb0⟩:=old id b h
    obtain ⟨l',hl',hbl⟩:=hF.heap.get id b (oldget id b h)
    rw [hl] at hl'; cases hl'
    have hlt:=hbl.lt hn
    have hnF:id ∉ F:=fun hc=>by rw [eW F ρ id (.inr hc)] at hl; cases hl
    have hl0:ρ id=some l:=by rw [← n5 F ρ id hnF]; exact hl
    have hno:¬ Bc.own l.b:=fun ho=>by
      rw [hBc] at ho
      rcases ho with h | ⟨id',hid',l2,hl2,hn2,e⟩
      · have : w.heap.size ≤ l.b := h
        omega
      · obtain ⟨b2, hb2⟩ := dx _ _ _ hh id' hid'
        exact hi.heap.inj id id' b0 b2 l l2 hb0 hb2 (fun e=>h1 (e ▸ hid')) hl0 hl2 hn hn2 e.symm
    exact ⟨hlt.1,hno,fun hs=>by rcases hs2 _ hs with h | h; exact hlt.2.2 h; exact hno h⟩
  have new:∀ id b,ac (d9 st.h hc pins outs outs) id=some b→∃ j b0 l,(id,j)∈outs∧ac hc j=some b0∧ρ' j=some l∧ρ2 id=some l∧BlkRel X.E S' ρ' w' Bc l b0∧BlkRel X.E S' ρ2 w' B l b:=fun id b h=>by
    obtain ⟨j,b0,h1,h2,rfl⟩:=je outs id b h
    obtain ⟨l,hl,hbl⟩:=hH'.get j b0 h2
    have hf:=gx outs id j hn1 h1
    have hl2:ρ2 id=some l:=by rw [hρ2]; simp only [hf]; exact hl
    have hw:b0.within (outs.map (·.2))=true:=by
      have:=List.all_eq_true.1 hbw _ h1
      simp only [h2] at this
      exact this
    refine ⟨j,b0,l,h1,h2,hl,hl2,hbl,hbl.ren hX.u hw hdn (fun hn=>hown _ (hbl.lt hn).2.1) ?_⟩
    cases hp:pins.elem id with
    | false=>exact .inl rfl
    | true =>
      simp only [cond]
      have hp':id∈pins:=by simpa using hp
      obtain ⟨g1,g2,_⟩:=hpins id hp'
      rw [hf] at g2; cases g2
      obtain ⟨b1,hb1⟩:=dx _ _ _ hh id g1
      obtain ⟨l1,hl1,hbl1⟩:=hi.heap.get id b1 hb1
      have:=hpinl id hp' l hl
      rw [hl1] at this; cases this
      rw [hb1]
      cases b1 with
      | box t cs=>exact hbl1.1
      | _=>exact .inl rfl
  refine ⟨v',_,_,S',ρ2,rfl,hk,⟨hi.defers,hi.size,hi.below.trans (hfr.mono hown),fun k hkk=>hi.hB k (Nat.le_trans hfr.size hkk),fun b hb=>hs1 b (hi.s0 b hb),fun b hb => ?_,hi.g0,fun i => ?_,?_⟩,hv'.ren hX.u hvw hdn⟩
  · rcases hs2 b hb with h | h
    · exact hi.s1 b h
    · exact .inr (hown b h)
  · show Rel X.E S' ρ2 w' (aK (st.forgets (gq ids outs pins)).t i) _
    rw [← hFe]
    exact (hF.tmps i).mono hs1 hsame hext
  · show HRel X.E S' ρ2 w' B (d9 st.h hc pins outs outs ++ bL (st.forgets (gq ids outs pins)).h pins)
    rw [← hFe]
    refine ⟨fun id b hg => ?_,fun i j b b' l l' hgi hgj hne hli hlj hn hn' => ?_,hH'.lt⟩
    · rw [bf] at hg
      split at hg
      · rename_i b' hb'
        cases hg
        obtain ⟨_,_,l,_,_,_,h1,_,h2⟩:=new id b hb'
        exact ⟨l,h1,h2⟩
      · obtain ⟨l, hl, hbl⟩ := hF.heap.get id b (oldget id b hg)
        refine ⟨l,hext id l hl,hbl.mono hs1 hsame hext fun hn => ?_⟩
        obtain ⟨c1,c2,c3⟩:=oldfree id b l hg hl hn
        exact ⟨hfr.block _ c1 c2,c3⟩
    · have kind : ∀ id b l, ac (d9 st.h hc pins outs outs ++ bL (st.forgets F).h pins) id = some b → ρ2 id = some l → l.n ≠ 0 → (∃ j b0, (id, j) ∈ outs ∧ ac hc j = some b0 ∧ ρ' j = some l ∧ Bc.own l.b) ∨ (∃ b0, ac (st.forgets F).h id = some b0 ∧ (ρ.dels F) id = some l ∧ ¬ Bc.own l.b) := fun id b l hg hl hn => by
        rw [bf] at hg
        split at hg
        · rename_i b' hb'
          obtain ⟨j,b0,l2,h1,h2,h3,h4,h5,_⟩:=new id b' hb'
          rw [hl] at h4; cases h4
          exact .inl ⟨j,b0,h1,h2,h3,(h5.lt hn).2.1⟩
        · obtain ⟨l2, hl2, _⟩ := hF.heap.get id b (oldget id b hg)
          have:=hext id l2 hl2
          rw [hl] at this; cases this
          exact .inr ⟨b,oldget id b hg,hl2,(oldfree id b l hg hl2 hn).2.1⟩
      rcases kind i b l hgi hli hn with ⟨j1,b1,p1,p2,p3,p4⟩ | ⟨b1,p1,p2,p3⟩<;>rcases kind j b' l' hgj hlj hn' with ⟨j2,b2,q1,q2,q3,q4⟩ | ⟨b2,q1,q2,q3⟩
      · refine hH'.inj j1 j2 b1 b2 l l' p2 q2 (fun e => hne ?_) p3 q3 hn hn'
        subst e
        have hsnd:∀ (l:List (Nat×Nat)) (x y z:Nat),(l.map (·.2)).Nodup→(x,z)∈l→(y,z)∈l→x=y:=by
          intro l
          induction l with
          | nil=>intro x y z _ h; cases h
          | cons p l ih =>
            intro x y z hnn h1 h2
            simp only [List.map_cons,List.nodup_cons] at hnn
            rcases List.mem_cons.1 h1 with e1 | h1<;>rcases List.mem_cons.1 h2 with e2 | h2
            · rw [← e1] at e2; exact (Prod.mk.inj e2).1.symm
            · exact absurd (List.mem_map.2 ⟨_,h2,by rw [← e1]⟩) hnn.1
            · exact absurd (List.mem_map.2 ⟨_,h1,by rw [← e2]⟩) hnn.1
            · exact ih x y z hnn.2 h1 h2
        exact hsnd outs i j j1 hn2 p1 q1
      · intro e; exact q3 (e ▸ p4)
      · intro e; exact p3 (e ▸ q4)
      · exact hF.heap.inj i j b1 b2 l l' p1 q1 hne p2 q2 hn hn'
end
end Go.Proofs.YtnofdcckddfooaaGreatDoor

namespace Go.Proofs.YtnofdcckddfooaaGreatDoor
set_option linter.unusedVariables false
set_option linter.unusedSectionVars false
set_option linter.unusedSimpArgs false
open Go.RowKit
section
variable {U:Type} {El:U→Type} {P:Program} {X:Ctx U El} [DecidableEq U]
theorem cN {b:Bool} {f:(AV U El→az U El→Option (Fin U El))→Option (Fin U El)} (h:∃ oo:Option (AV U El×az U El),∀ k,f k=oo.bind fun p=>k p.1 p.2):∃ oo:Option (AV U El×az U El),∀ k,chk b (f k)=oo.bind fun p=>k p.1 p.2:=by
  cases b
  · exact ⟨none,fun _=>rfl⟩
  · exact h
def pD (ids:List Nat) (d:Nat):az U El→Nat→List (Nat×Nat)
  | [],_=>[]
  | (j,_) :: h,n=>bif Nat.ble aM j then (ids.getD (j - aM) 0,j) :: pD ids d h n else (d * 1000+n,j) :: pD ids d h (n+1)
def rq (sp:MSp U El):SpM U El:=fun d args st k =>
  let ids:=fO st.h 40 0 (AV.nms.nmsL args [])
  match dR st.h ids ids aM with
  | some hs=>sp (args.map (AV.ren (dQ ids aM))) hs fun v hc =>
      let outs:=pD ids d hc 0
      let pins:=bU ids hc
      chk (args.all (AV.within ids)&&mOk hc ids outs pins v) (k (v.ren (jZ outs)) (sJ st ids outs pins hc))
  | none=>none
theorem mW {f:FuncId} {sp:MSp U El} (hX:CtxOk P X) (h:lU P X.E f sp):dm P X f (rq sp):=by
  refine ⟨h.1,?_⟩
  intro B S0 w0 S ρ st a w d args vs k r hi hr hv
  unfold rq at hv
  simp only at hv
  split at hv
  · rename_i hs hh
    obtain ⟨v,hc,hm,hk⟩:=h.2 _ _ _ _ hv
    obtain ⟨hck,hk⟩:=ae hk
    simp only [Bool.and_eq_true] at hck
    exact hi.mcall hX hr rfl hck.1 hh hm hck.2 hk
  · cases hv
theorem spN {E:Univ U El}:∀ p∈([]:List (FuncId×Sp U El)),SpOk P E p.1 p.2:=fun p h=>by cases h
theorem spC {E:Univ U El} {f:FuncId} {sp:Sp U El} {l:List (FuncId×Sp U El)} (h:SpOk P E f sp) (hl:∀ p∈l,SpOk P E p.1 p.2):∀ p∈(f,sp) :: l,SpOk P E p.1 p.2:=fun p hp=>by
  rcases List.mem_cons.1 hp with rfl | hp
  · exact h
  · exact hl p hp
theorem dpN {E:Univ U El}:∀ p∈([]:List (FuncId×MSp U El)),lV P E p.1 p.2:=fun p h=>by cases h
theorem mpN:∀ p∈([]:List (FuncId×SpM U El)),dm P X p.1 p.2:=fun p h=>by cases h
theorem mpC {f:FuncId} {sp:SpM U El} {l:List (FuncId×SpM U El)} (h:dm P X f sp) (hl:∀ p∈l,dm P X p.1 p.2):∀ p∈(f,sp) :: l,dm P X p.1 p.2:=fun p hp=>by
  rcases List.mem_cons.1 hp with rfl | hp
  · exact h
  · exact hl p hp
theorem bK (b:Bool) (v:AV U El) (h:az U El):∃ oo:Option (AV U El×az U El),∀ k:AV U El→az U El→Option (Fin U El),chk b (k v h)=oo.bind fun p=>k p.1 p.2:=by
  cases b
  · exact ⟨none,fun _=>rfl⟩
  · exact ⟨some (v,h),fun _=>rfl⟩
end
end Go.Proofs.YtnofdcckddfooaaGreatDoor
