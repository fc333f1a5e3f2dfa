/- The abstract run of a function's code is borne out by the model. -/
import Derived.Test.YtkeplmpcijigaaaLMA
import Derived.Tactics
namespace Go.Proofs.Ytkeplmpcijigaaa
set_option linter.unusedVariables false
set_option linter.unusedSectionVars false
set_option linter.unusedSimpArgs false
open Go.RowKit
section
variable {U:Type} {El:U→Type} {P:Program} {X:Ctx U El} {S S0:Nat→Prop} {ρ:Rho} {w w0:World} [DecidableEq U] [Drw]
variable {a:Act} {st:St U El} {B:Bd} {r:Fin U El}
theorem Inv.join {s : Nat} {u : U} {xs : List (El u)} {l : Loc} (hX : CtxOk P X) (hi : Inv X B S0 w0 S ρ st a w) (hs : ρ s = none) (hv : ∀ ρ' : Rho, ρ' s = some l → Rel X.E S ρ' w (.ful s) (a.tmps.getD s undef)) (hb : ∀ ρ', BlkRel X.E S ρ' w B l (.rows u xs))
    (hsep:∀ j b l',hget st.h j=some b→ρ j=some l'→l'.n≠0→l.n≠0→l'.b≠l.b):Inv X B S0 w0 S (ρ.set s l) ⟨(s,.ful s) :: st.t,(s,.rows u xs) :: st.h⟩ a w:=by
  have e1:(ρ.set s l) s=some l:=by simp [Rho.set]
  have hext:∀ j l',ρ j=some l'→(ρ.set s l) j=some l':=fun j l' h=>by
    by_cases e:j=s
    · subst e; rw [hs] at h; cases h
    · simp [Rho.set,e,h]
  refine ⟨hi.defers,hi.size,hi.below,hi.hB,hi.s0,hi.s1,hi.g0,fun i => ?_,⟨fun j b hg => ?_,fun i j b b' l1 l2 hgi hgj hne hli hlj hn1 hn2 => ?_,hi.heap.lt⟩⟩
  · simp only [tget]
    by_cases e:s=i
    · subst e; rw [Nat.beq_refl]; exact hv _ e1
    · rw [nbeq_ne e]; exact (hi.tmps i).mono (fun _ h=>h) (fun _ _=>rfl) hext
  · simp only [hget] at hg
    by_cases e:s=j
    · subst e; rw [Nat.beq_refl] at hg; cases hg; exact ⟨l,e1,hb _⟩
    · rw [nbeq_ne e] at hg
      obtain ⟨l',h1,h2⟩:=hi.heap.get j b hg
      exact ⟨l',hext j l' h1,h2.mono (fun _ h=>h) (fun _ _=>rfl) hext (fun hn=>⟨rfl,(h2.lt hn).2.2⟩)⟩
  · simp only [hget] at hgi hgj
    by_cases ei:s=i
    · subst ei
      rw [e1] at hli; cases hli
      rw [nbeq_ne hne] at hgj
      have hlj':ρ j=some l2:=by simpa [Rho.set,Ne.symm hne] using hlj
      exact (hsep j b' l2 hgj hlj' hn2 hn1).symm
    · rw [nbeq_ne ei] at hgi
      have hli':ρ i=some l1:=by simpa [Rho.set,Ne.symm ei] using hli
      by_cases ej:s=j
      · subst ej
        rw [e1] at hlj; cases hlj
        exact hsep i b l1 hgi hli' hn1 hn2
      · rw [nbeq_ne ej] at hgj
        have hlj':ρ j=some l2:=by simpa [Rho.set,Ne.symm ej] using hlj
        exact hi.heap.inj i j b b' l1 l2 hgi hgj hne hli' hlj' hn1 hn2
theorem tget_move (id s:Nat) (t:Tmps U El) (i:Nat):tget (tmove id s t) i=(tget t i).mv id s:=by
  induction t with
  | nil=>rfl
  | cons p t ih =>
    obtain ⟨j,v⟩:=p
    simp only [tmove,tget]
    cases Nat.beq j i<;>simp [ih]
theorem castRow_sound {s : Nat} {u : U} {k : St U El → Option (Fin U El)} (hX : CtxOk P X) (hs : StRel X B S0 w0 st a w) (hv : castRow st s u k = some r) : ∃ st', StRel X B S0 w0 st' a w ∧ k st' = some r := by
  obtain ⟨S,ρ,hi⟩:=hs
  unfold castRow at hv
  split at hv
  · rename_i he
    refine ⟨_,⟨S,_,(hi.forget hX s).join hX (l:=⟨0,0,X.E.sz u,0⟩) (u:=u) (xs:=[]) (by simp [Rho.del]) (fun ρ' e => ?_) (fun ρ'=>⟨rfl,rfl,by simp,fun h=>absurd rfl h⟩) (fun j b l' _ _ _ h=>absurd rfl h)⟩,hv⟩
    have:=hi.tmps s
    rw [he] at this
    generalize a.tmps.getD s undef=q at this
    cases this
    exact .fulN s _ e rfl rfl
  · rename_i id he
    by_cases e:id=s
    · subst e
      rw [Nat.beq_refl] at hv
      exact ⟨st,⟨S,ρ,hi⟩,hv⟩
    · rw [nbeq_ne e] at hv
      simp only [cond] at hv
      split at hv
      · rename_i v xs hg
        obtain ⟨l,hl,hb⟩:=hi.heap.get _ _ hg
        have hb':∀ ρ':Rho,BlkRel X.E S ρ' w B l (.rows v xs):=fun ρ'=>by
          obtain ⟨h1,h2,h3,h4⟩:=hb
          refine ⟨h1,h2,h3,fun hn => ?_⟩
          obtain ⟨h5,h6,c,hh,h7,h8⟩:=h4 hn
          exact ⟨h5,h6,c,hh,h7,fun i x j a hi' hj=>by obtain ⟨vv,hv,hr⟩:=h8 i x j a hi' hj; exact ⟨vv,hv,hr.cellρ hX.u (hX.u.cell v x a (List.mem_of_getElem? hj))⟩⟩
        have hj:=((hi.forget hX id).forget hX s).join hX (s:=s) (l:=l) (u:=v) (xs:=xs) (by simp [Rho.del]) (fun ρ' e' => ?c1) hb' (fun j b l' hgj hlj hn hn' => ?c2)
        refine ⟨_,⟨S,_,hj.learn fun i => ?c3⟩,hv⟩
        case c3 =>
          show Rel X.E S _ w (tget ((s,.ful s) :: tmove id s st.t) i) _
          have h0:=hj.tmps i
          have es:((((ρ.del id).del s).set s l) s)=some l:=by simp [Rho.set]
          simp only [tget] at h0 ⊢
          by_cases ei:s=i
          · subst ei; rw [Nat.beq_refl] at h0 ⊢; exact h0
          · rw [nbeq_ne ei] at h0 ⊢
            simp only [cond] at h0 ⊢
            rw [tget_move]
            have hk:tget (((st.forget id).forget s).t) i=((tget st.t i).kill id).kill s:=by
              show tget (tkill s (tkill id st.t)) i=_
              rw [tget_kill,tget_kill]
            rw [hk] at h0
            have hr:=hi.tmps i
            unfold AV.mv
            split
            · rename_i i' hv'
              cases hb2:Nat.beq i' id with
              | false=>simp only [cond]; rw [hv'] at h0; exact h0
              | true =>
                obtain rfl:=Nat.eq_of_beq_eq_true hb2
                simp only [cond]
                rw [hv'] at hr
                generalize a.tmps.getD i undef=q at hr
                cases hr with
                | ful _ cap l' hl' c1 c2=>rw [hl] at hl'; cases hl'; exact .ful s cap l es c1 c2
                | fulN _ l' hl' c1 c2=>rw [hl] at hl'; cases hl'; exact .fulN s l es c1 c2
            · rename_i i' lo' n' hv'
              cases hb2:Nat.beq i' id with
              | false=>simp only [cond]; rw [hv'] at h0; exact h0
              | true =>
                obtain rfl:=Nat.eq_of_beq_eq_true hb2
                simp only [cond]
                rw [hv'] at hr
                generalize a.tmps.getD i undef=q at hr
                cases hr with
                | own _ _ _ cap l' hl' c1 c2 c3=>rw [hl] at hl'; cases hl'; exact .own s lo' n' cap l es c1 c2 c3
                | ownE _ _ ao cap=>exact .ownE s lo' ao cap
            · exact h0
        case c1 =>
          have:=hi.tmps s
          rw [he] at this
          generalize a.tmps.getD s undef=q at this
          cases this with
          | ful _ cap l' hl' c1 c2=>rw [hl] at hl'; cases hl'; exact .ful s cap l e' c1 c2
          | fulN _ l' hl' c1 c2=>rw [hl] at hl'; cases hl'; exact .fulN s l e' c1 c2
        case c2 =>
          simp only [St.forget,hget_kill,hget_del,Option.map_eq_some_iff] at hgj
          obtain ⟨b0,h0,_⟩:=hgj
          split at h0
          · cases h0
          · simp only [Option.map_eq_some_iff] at h0
            obtain ⟨b1,h1,_⟩:=h0
            split at h1
            · cases h1
            · rename_i e1 e2
              have hlj':ρ j=some l':=by
                unfold Rho.del at hlj
                split at hlj
                · cases hlj
                · first
                  | exact hlj
                  | (split at hlj
                     · cases hlj
                     · exact hlj)
              exact hi.heap.inj j id b1 _ l' l h1 hg e2 hlj' hl hn hn'
      · cases hv
  · rename_i id lo len he
    obtain ⟨hck,hv2⟩:=chk_some hv
    simp only [Bool.and_eq_true,nlt,decide_eq_true_eq] at hck
    obtain ⟨hlo,hlen⟩:=hck
    obtain rfl:=Nat.eq_of_beq_eq_true hlo
    split at hv2
    · rename_i v xs hg
      obtain ⟨l,hl,hb⟩:=hi.heap.get _ _ hg
      have hts:=hi.tmps s
      rw [he] at hts
      generalize hq:a.tmps.getD s undef=q at hts
      cases hts with
      | ownE _ _ ao cap=>omega
      | own _ _ _ cap l' hl' e1 e2 e3 =>
        rw [hl] at hl'; cases hl'
        obtain ⟨h1,h2,h3,h4⟩:=hb
        have hlx:len≤xs.length:=by rw [← h2]; omega
        refine ⟨_,⟨S,_,((hi.forget hX id).forget hX s).join hX (s:=s) (l:=⟨l.b,l.n,l.s,len⟩) (u:=v) (xs:=List.take len xs) (by simp [Rho.del]) (fun ρ' e' => ?_) (fun ρ'=>⟨h1,by simp; omega,?_,fun hn => ?_⟩) (fun j b l' hgj hlj hn hn' => ?_)⟩,hv2⟩
        · rw [hq, show 0 * l.s = 0 by omega]
          exact .ful s cap ⟨l.b,l.n,l.s,len⟩ e' (by simpa using e1) e2
        · rw [List.length_take, Nat.min_eq_left hlx]
          exact Nat.le_trans (Nat.mul_le_mul_right _ hlx) h3
        · obtain ⟨h5, h6, c, hh, h7, h8⟩ := h4 hn
          refine ⟨h5,h6,c,hh,h7,fun i x j a hx hj => ?_⟩
          have hx':xs[i]? = some x:=by
            rw [List.getElem?_take] at hx
            split at hx
            · exact hx
            · cases hx
          obtain ⟨vv,hv,hr⟩:=h8 i x j a hx' hj
          exact ⟨vv,hv,hr.cellρ hX.u (hX.u.cell v x a (List.mem_of_getElem? hj))⟩
        · simp only [St.forget, hget_kill, hget_del, Option.map_eq_some_iff] at hgj
          obtain ⟨b0,h0,_⟩:=hgj
          split at h0
          · cases h0
          · simp only [Option.map_eq_some_iff] at h0
            obtain ⟨b1,h1',_⟩:=h0
            split at h1'
            · cases h1'
            · rename_i e1 e2
              have hlj':ρ j=some l':=by
                unfold Rho.del at hlj
                split at hlj
                · cases hlj
                · first
                  | exact hlj
                  | (split at hlj
                     · cases hlj
                     · exact hlj)
              exact hi.heap.inj j id b1 _ l' l h1' hg e2 hlj' hl hn hn'
    · cases hv2
  · cases hv
theorem shareCells_sound (hX:CtxOk P X):∀ (cs:List (Nat×Nat×U)) (st:St U El) (k:St U El→Option (Fin U El)),StRel X B S0 w0 st a w→shareCells st cs k=some r→∃ st',StRel X B S0 w0 st' a w∧k st'=some r:=by
  intro cs
  induction cs with
  | nil=>intro st k hs hv; exact ⟨st,hs,hv⟩
  | cons c cs ih =>
    intro st k hs hv
    obtain ⟨s,off,u⟩:=c
    obtain ⟨st1,h1,h2⟩:=shareCell_sound hX hs hv
    exact ih st1 k h1 h2
theorem Inv.setCell {b tg off : Nat} {cs : List (AV U El)} {c' : AV U El} (hi : Inv X B S0 w0 S ρ st a w) (hg : hget st.h b = some (.box tg cs)) (hc : ∀ l c e v, ρ b = some l → w.heap[l.b]? = some (.cells c e (0, 0)) → c[off]? = some v → Rel X.E S ρ w c' v) :
    Inv X B S0 w0 S ρ ⟨st.t,hset st.h b (.box tg (cs.set off c'))⟩ a w:=by
  have hcase:∀ i c,hget (hset st.h b (.box tg (cs.set off c'))) i=some c→(i=b∧c = .box tg (cs.set off c'))∨(i≠b∧hget st.h i=some c):=fun i c h=>by
    rw [hget_set] at h
    by_cases e:i=b
    · subst e; rw [if_pos rfl,hg] at h; cases h; exact .inl ⟨rfl,rfl⟩
    · rw [if_neg e] at h; exact .inr ⟨e,h⟩
  refine ⟨hi.defers,hi.size,hi.below,hi.hB,hi.s0,hi.s1,hi.g0,hi.tmps,⟨fun i c hgi => ?_,fun i i' c c'' l1 l2 hgi hgi' hne hli hli' hn1 hn2 => ?_,hi.heap.lt⟩⟩
  · rcases hcase i c hgi with ⟨rfl, rfl⟩ | ⟨_, h⟩
    · obtain ⟨l, hl, b0, b1, b2⟩ := hi.heap.get _ _ hg
      refine ⟨l,hl,b0,by simpa using b1,fun hn => ?_⟩
      obtain ⟨b3,b4,c0,e0,hh,b5,b6⟩:=b2 hn
      refine ⟨b3,b4,c0,e0,hh,b5,fun m x hm => ?_⟩
      by_cases em:m=off
      · subst em
        have hml:m < cs.length:=by have:=(List.getElem?_eq_some_iff.1 hm).1; simpa using this
        rw [List.getElem?_set_self hml] at hm
        cases hm
        have hmc:m < c0.size:=by rw [b5,b1]; exact hml
        exact ⟨c0[m],by simp [hmc],hc l c0 e0 _ hl hh (by simp [hmc])⟩
      · rw [List.getElem?_set_ne (Ne.symm em)] at hm
        exact b6 m x hm
    · exact hi.heap.get i c h
  · have k1 : ∃ c0, hget st.h i = some c0 := by
      rcases hcase i c hgi with ⟨rfl,_⟩ | ⟨_,h⟩
      · exact ⟨_,hg⟩
      · exact ⟨_,h⟩
    have k2:∃ c0,hget st.h i'=some c0:=by
      rcases hcase i' c'' hgi' with ⟨rfl,_⟩ | ⟨_,h⟩
      · exact ⟨_,hg⟩
      · exact ⟨_,h⟩
    obtain ⟨c1,h1⟩:=k1
    obtain ⟨c2,h2⟩:=k2
    exact hi.heap.inj i i' c1 c2 l1 l2 h1 h2 hne hli hli' hn1 hn2
theorem shareBox_sound {b off : Nat} {u : U} {k : St U El → Option (Fin U El)} (hX : CtxOk P X) (hs : StRel X B S0 w0 st a w) (hv : shareBox st b off u k = some r) : ∃ st', StRel X B S0 w0 st' a w ∧ k st' = some r := by
  obtain ⟨S,ρ,hi⟩:=hs
  unfold shareBox at hv
  split at hv
  · rename_i tg cs hg
    have hval:∀ l c e v c0,ρ b=some l→w.heap[l.b]? = some (.cells c e (0,0))→c[off]? = some v→cs[off]? = some c0→Rel X.E S ρ w c0 v:=fun l c e v c0 hl hh hcv hc0=>by
      obtain ⟨l',hl',b0,b1,b2⟩:=hi.heap.get _ _ hg
      rw [hl] at hl'; cases hl'
      have hn:l.n≠0:=by have:=(List.getElem?_eq_some_iff.1 hc0).1; omega
      obtain ⟨b3,b4,c1,e1,hh1,b5,b6⟩:=b2 hn
      rw [hh] at hh1; cases hh1
      obtain ⟨v',hv',hr⟩:=b6 off c0 hc0
      rw [hcv] at hv'; cases hv'
      exact hr
    split at hv
    · rename_i hc
      refine ⟨_,⟨S,ρ,hi.setCell hg fun l c e v hl hh hcv => ?_⟩,hv⟩
      have:=hval l c e v _ hl hh hcv hc
      cases this
      exact .lstE _ _ _
    · rename_i id hc
      split at hv
      · rename_i v xs hgr
        split at hv
        · rename_i tg' cs' hg'
          obtain ⟨l,hl,hb⟩:=hi.heap.get _ _ hgr
          have hsh:=hi.share hX hgr hl
          refine ⟨_,⟨_,_,hsh.setCell hg' fun lb c e vv hlb hh hcv => ?_⟩,hv⟩
          have hbid:b≠id:=by
            rintro rfl
            simp [Rho.del] at hlb
          have hlb':ρ b=some lb:=by simpa [Rho.del,hbid] using hlb
          exact ful_lst hX hb hl (hval lb c e vv _ hlb' hh hcv hc)
        · exact ⟨st,⟨S,ρ,hi⟩,hv⟩
      · exact ⟨st,⟨S,ρ,hi⟩,hv⟩
    · exact ⟨st,⟨S,ρ,hi⟩,hv⟩
  · exact ⟨st,⟨S,ρ,hi⟩,hv⟩
theorem shareBoxes_sound (hX:CtxOk P X):∀ (cs:List (Nat×Nat×U)) (st:St U El) (k:St U El→Option (Fin U El)),StRel X B S0 w0 st a w→shareBoxes st cs k=some r→∃ st',StRel X B S0 w0 st' a w∧k st'=some r:=by
  intro cs
  induction cs with
  | nil=>intro st k hs hv; exact ⟨st,hs,hv⟩
  | cons c cs ih =>
    intro st k hs hv
    obtain ⟨b,off,u⟩:=c
    obtain ⟨st1,h1,h2⟩:=shareBox_sound hX hs hv
    exact ih st1 k h1 h2
theorem shareAll_sound (hX:CtxOk P X):∀ (cs:List (Nat×U)) (st:St U El) (k:St U El→Option (Fin U El)),StRel X B S0 w0 st a w→shareAll st cs k=some r→∃ st',StRel X B S0 w0 st' a w∧k st'=some r:=by
  intro cs
  induction cs with
  | nil=>intro st k hs hv; exact ⟨st,hs,hv⟩
  | cons c cs ih =>
    intro st k hs hv
    obtain ⟨s,u⟩:=c
    obtain ⟨st1,h1,h2⟩:=shareRow_sound hX hs hv
    exact ih st1 k h1 h2
theorem castAll_sound (hX:CtxOk P X):∀ (cs:List (Nat×U)) (st:St U El) (k:St U El→Option (Fin U El)),StRel X B S0 w0 st a w→castAll st cs k=some r→∃ st',StRel X B S0 w0 st' a w∧k st'=some r:=by
  intro cs
  induction cs with
  | nil=>intro st k hs hv; exact ⟨st,hs,hv⟩
  | cons c cs ih =>
    intro st k hs hv
    obtain ⟨s,u⟩:=c
    obtain ⟨st1,h1,h2⟩:=castRow_sound hX hs hv
    exact ih st1 k h1 h2
theorem tget_keep (t:Tmps U El) (l:List Nat) (i:Nat):tget (keepT t l) i=tget t i∨tget (keepT t l) i = .any:=by
  induction l with
  | nil=>exact .inr rfl
  | cons s l ih =>
    simp only [keepT,tget]
    by_cases e:s=i
    · subst e; rw [Nat.beq_refl]; exact .inl rfl
    · rw [nbeq_ne e]; exact ih
theorem hget_keep (h:Heap U El) (l:List Nat) (j:Nat) (b:Blk U El) (hg:hget (keepH h l) j=some b):hget h j=some b:=by
  induction l with
  | nil=>cases hg
  | cons s l ih =>
    simp only [keepH] at hg
    split at hg
    · rename_i b' hb'
      simp only [hget] at hg
      by_cases e:s=j
      · subst e; rw [Nat.beq_refl] at hg; cases hg; exact hb'
      · rw [nbeq_ne e] at hg; exact ih hg
    · exact ih hg
theorem normK_sound {nm:Norm U} {k:St U El→Option (Fin U El)} (hX:CtxOk P X) (hs:StRel X B S0 w0 st a w) (hv:normK nm st k=some r):∃ st',StRel X B S0 w0 st' a w∧k st'=some r:=by
  obtain ⟨st00,hs00,h00⟩:=castAll_sound hX nm.casts st _ hs hv
  obtain ⟨st01,hs01,h01⟩:=castCells_sound hX nm.cells st00 _ hs00 h00
  obtain ⟨st02,hs02,h02⟩:=shareBoxes_sound hX nm.bcells st01 _ hs01 h01
  obtain ⟨st0,hs0,h0⟩:=shareCells_sound hX nm.scells st02 _ hs02 h02
  obtain ⟨st1,⟨S,ρ,hi⟩,h2⟩:=shareAll_sound hX nm.shares st0 _ hs0 h0
  refine ⟨_,⟨S,ρ,hi.defers,hi.size,hi.below,hi.hB,hi.s0,hi.s1,hi.g0,fun i => ?_,⟨fun j b hg=>hi.heap.get j b (hget_keep _ _ _ _ hg),fun i j b b' l l' hgi hgj=>hi.heap.inj i j b b' l l' (hget_keep _ _ _ _ hgi) (hget_keep _ _ _ _ hgj),hi.heap.lt⟩⟩,h2⟩
  rcases tget_keep st1.t nm.keep i with e | e
  · simp only [e]; exact hi.tmps i
  · simp only [e]; exact .any _
theorem drawL_soundG {pan : Pan U El} {id : Nat} {ops : Array Oper} {ws : List (Nat × Nat)} {K : Kont U El} {Q : Exit → Act → World → Prop} (hX : CtxOk P X) (hM : MOkG pan P X) (hP : PanQ pan X B S0 w0 r Q) (hs : StRel X B S0 w0 st a w) (hK : ∀ st' a' w', StRel X B S0 w0 st' a' w' → K st' = some r → Q .normal a' w')
    (hv:(match ops.toList.getLast? with
         | some o=>bif drawOk X.nt ops.toList.dropLast ws&&lastOk X.nt ops.toList.dropLast o then
            (let os:=ops.toList.dropLast
             let st0:=st.forgets (drawIds os)
             drawOps X (os.map (·.dst)) (safeB (ancs os []) (evsOf os ws)) ws os 0 st0.t st0.h fun st'=>runOps X [] [o] st' K)
            else none
         | none=>none)=some r):(Code.region id ops true).wp P Q a w:=by
  split at hv
  · rename_i o hlast
    cases hc:(drawOk X.nt ops.toList.dropLast ws&&lastOk X.nt ops.toList.dropLast o) with
    | false=>rw [hc] at hv; cases hv
    | true =>
      rw [hc] at hv
      simp only [cond_true] at hv
      obtain ⟨hok,hlo⟩:=Bool.and_eq_true_iff.1 hc
      have hops:ops=ops.toList.dropLast.toArray.push o:=by
        apply Array.ext'
        rw [Array.toList_push]
        have:ops.toList≠[]:=by rintro h; rw [h] at hlast; cases hlast
        have h2:=List.dropLast_concat_getLast this
        rw [List.getLast?_eq_some_getLast this] at hlast
        cases hlast
        exact h2.symm
      generalize hio:ops.toList.dropLast=os at hok hlo hv hops
      have hinit:(os.toArray).toList=os:=rfl
      simp only [lastOk,Bool.and_eq_true] at hlo
      obtain ⟨⟨⟨⟨g1,g2⟩,g3⟩,g4⟩,g5⟩:=hlo
      have hf:DrawFacts os.toArray ws X.nt:=drawFacts (ops:=os.toArray) hok
      subst hops
      refine wp_region_any hX.mixed ?_
      have hsz:(os.toArray.push o).size=os.toArray.size+1:=Array.size_push _
      have hrep:Array.replicate (os.toArray.push o).size false=(Array.replicate os.toArray.size false).push false:=by
        rw [hsz]
        exact Array.replicate_succ
      rw [hrep,hsz]
      have hnoL:∀ i,¬ ((Array.replicate os.toArray.size false).getD i false=true):=fun i=>by
        rw [Array.getD_eq_getD_getElem?]
        by_cases h:i < os.length<;>simp [h]
      refine wpAny_last hf (fun i hi => ?_) (fun e he hb => ?_) (fun i oi g b hoi hgd => ?_) _ _ a _ (by simp) (fun i oi h=>absurd h (hnoL i)) ?_
      · exact List.all_eq_true.1 g3 i (List.mem_range.2 (by simpa using hi))
      · have := List.all_eq_true.1 g4 e (by simpa using he)
        rw [hb] at this
        have h3:e.on < os.length:=by simpa using this
        simpa using h3
      · have hi : i < os.length := by simpa using (Array.getElem?_eq_some_iff.1 hoi).1
        have hoi':os[i]? = some oi:=by simpa using hoi
        have hm:(oi,i)∈os.zipIdx:=by
          rw [List.mem_zipIdx_iff_getElem?]
          exact hoi'
        have:=List.all_eq_true.1 g5 _ hm
        simp only [hgd] at this
        exact Nat.le_of_ble_eq_true this
      · refine draw_wpAny (ops := os.toArray) hX hs hok (fun st' a' w' hs' hk' => ?_) hv
        show wpOp P (os.toArray.push o) Q os.toArray.size (Q .normal) a' w'
        unfold wpOp
        rw [Array.getElem?_push,if_pos rfl]
        have hgn:o.guard=none:=by
          revert g1
          cases o.guard<;>simp
        have hw:Region.wanted o (yielded (os.toArray.push o) a'.tmps)=true:=by simp [Region.wanted,hgn]
        simp only [hw,if_true]
        refine .inl ?_
        simp only [runOps,guardOf,hgn] at hk'
        obtain ⟨t',hk,hor⟩:=withTest_some hk'
        have hst':StRel X B S0 w0 ⟨t',st'.h⟩ a' w':=by
          rcases hor with rfl | ⟨g,b,hg,rfl⟩
          · exact hs'
          · exact hs'.refine hg
        obtain ⟨st2,⟨S,ρ,hi⟩,hk2⟩:=preShare_sound hX hst' hk
        exact stepOp_soundG hX hM hi hk2 hP (fun st3 a3 w3 h3 h4=>hK st3 a3 w3 h3 h4)
  · cases hv
def blocksOf:Code→List (Nat×Code)
  | .seq a b=>blocksOf a++blocksOf b
  | .cond _ a b=>blocksOf a++blocksOf b
  | .block id b=>(id,b) :: blocksOf b
  | .loop b=>blocksOf b
  | _=>[]
def FragOk (P : Program) (X : Ctx U El) (B : Bd) (S0 : Nat → Prop) (w0 : World) (r : Fin U El) (c : Code) : Prop :=
  ∀ p ∈ blocksOf c, ∀ f, X.frag p.1 = some f → ∀ (st : St U El) (K : Kont U El) (a : Act) (w : World) (Q : Exit → Act → World → Prop), StRel X B S0 w0 st a w → f st K = some r →
    (∀ st' a' w',StRel X B S0 w0 st' a' w'→K st'=some r→Q .normal a' w')→(Code.block p.1 p.2).wp P Q a w
abbrev NoFr (X:Ctx U El):Prop:=X.frag=fun _=>none
theorem NoFr.ok (h:NoFr X) (c:Code):FragOk P X B S0 w0 r c:=fun p _ f hf=>by rw [h] at hf; cases hf
theorem exec_soundG {pan : Pan U El} (hX : CtxOk P X) (hM : MOkG pan P X) : ∀ (c : Code), FragOk P X B S0 w0 r c → ∀ (n : Ann U) (st : St U El) (K : Kont U El) (E : Nat → Kont U El) (R : Kont U El) (a : Act) (w : World) (Q : Exit → Act → World → Prop), PanQ pan X B S0 w0 r Q →
    (∀ st' a' w',StRel X B S0 w0 st' a' w'→K st'=some r→Q .normal a' w')→(∀ i st' a' w',StRel X B S0 w0 st' a' w'→E i st'=some r→Q (.exit i) a' w')→(∀ st' a' w',StRel X B S0 w0 st' a' w'→R st'=some r→Q .ret a' w') →
    StRel X B S0 w0 st a w→exec X c n st K E R=some r→c.wp P Q a w:=by
  intro c
  induction c with
  | skip=>intro hF n st K E R a w Q hP hK hE hR hs hv; exact wp_skip (hK st a w hs hv)
  | region id ops dr =>
    intro hF n st K E R a w Q hP hK hE hR hs hv
    simp only [exec] at hv
    cases dr with
    | true =>
      simp only [cond] at hv
      cases hA:n.isA with
      | true =>
        rw [hA] at hv
        obtain ⟨h1,h2⟩:=chk_some hv
        exact regionA_soundG hX hM hP hs hK (fun o ho e he=>by
          have:=List.all_eq_true.1 h1 o ho
          rw [he] at this
          exact Nat.le_of_ble_eq_true this) h2
      | false =>
      rw [hA] at hv
      cases hL:n.isL with
      | true =>
        rw [hL] at hv
        exact drawL_soundG hX hM hP hs hK hv
      | false =>
        rw [hL] at hv
        cases hok:drawOk X.nt ops.toList n.ws with
        | false=>rw [hok] at hv; cases hv
        | true =>
          rw [hok] at hv
          exact draw_sound hX hs hok hK hv
    | false =>
      simp only [cond] at hv
      obtain ⟨h1,h2⟩:=chk_some hv
      exact region_soundG hX hM hP hs hK (fun o ho e he=>by
        have:=List.all_eq_true.1 h1 o ho
        rw [he] at this
        exact Nat.le_of_ble_eq_true this) h2
  | seq x y ihx ihy =>
    intro hF n st K E R a w Q hP hK hE hR hs hv
    simp only [exec] at hv
    refine wp_seq (ihx (fun p hp=>hF p (by simp [blocksOf,hp])) n.fst st _ E R a w _ hP (fun st' a' w' hs' hv' => ?_) (fun i st' a' w' hs' hv'=>hE i st' a' w' hs' hv') (fun st' a' w' hs' hv'=>hR st' a' w' hs' hv') hs hv)
    cases hcut:n.cut with
    | none =>
      rw [hcut] at hv'
      exact ihy (fun p hp=>hF p (by simp [blocksOf,hp])) n.snd st' K E R a' w' Q hP hK hE hR hs' hv'
    | some nm =>
      rw [hcut] at hv'
      obtain ⟨st2,h1,h2⟩:=normK_sound hX hs' hv'
      rw [hid_eq] at h2
      exact ihy (fun p hp=>hF p (by simp [blocksOf,hp])) n.snd st2 K E R a' w' Q hP hK hE hR h1 h2
  | cond c x y ihx ihy =>
    intro hF n st K E R a w Q hP hK hE hR hs hv
    simp only [exec] at hv
    cases c with
    | tmp g =>
      obtain ⟨b,hb,hv'⟩:=branch_some hv
      have hs2:=hs.refine hb
      have hval:a.eval (.tmp g) = .bool b:=by
        obtain ⟨S,ρ,hi⟩:=hs
        have:=hi.tmps g
        rw [hb] at this
        show a.tmps.getD g undef=_
        generalize a.tmps.getD g undef=q at this
        cases this; rfl
      refine wp_cond hval ?_
      cases b with
      | true=>exact ihx (fun p hp=>hF p (by simp [blocksOf,hp])) n.fst _ K E R a w Q hP hK hE hR hs2 hv'
      | false=>exact ihy (fun p hp=>hF p (by simp [blocksOf,hp])) n.snd _ K E R a w Q hP hK hE hR hs2 hv'
    | _=>cases hv
  | block id b ih =>
    intro hF n st K E R a w Q hP hK hE hR hs hv
    simp only [exec] at hv
    cases hfr:X.frag id with
    | some f =>
      rw [hfr] at hv
      exact hF (id,b) (by simp [blocksOf]) f hfr st K a w Q hs hv hK
    | none =>
    rw [hfr] at hv
    refine wp_block (ih (fun p hp=>hF p (by simp [blocksOf,hp])) n.fst st K _ R a w _ hP (fun st' a' w' hs' hv'=>hK st' a' w' hs' hv') (fun i st' a' w' hs' hv' => ?_) (fun st' a' w' hs' hv'=>hR st' a' w' hs' hv') hs hv)
    simp only [Exit.inBlock]
    unfold Eblk at hv'
    by_cases e:i=id
    · subst e
      rw [Nat.beq_refl] at hv'
      rw [if_pos rfl]
      exact hK st' a' w' hs' hv'
    · rw [nbeq_ne e] at hv'
      rw [if_neg e]
      exact hE i st' a' w' hs' hv'
  | loop b ih =>
    intro hF n st K E R a w Q hP hK hE hR hs hv
    simp only [exec] at hv
    split at hv
    · rename_i nm _
      obtain ⟨st1,h1,h2⟩:=normK_sound hX hs hv
      rw [hid_eq] at h2
      refine wp_loop_rounds X.fuel ?_
      have key:∀ (m:Nat) (st:St U El) (a:Act) (w:World),StRel X B S0 w0 st a w→iter nm (fun st' K'=>exec X b n.fst st' K' E R) m st=some r→Code.rounds P b Q m a w:=by
        intro m
        induction m with
        | zero=>intro st a w _ hv; cases hv
        | succ m ihm =>
          intro st a w hs hv
          simp only [iter] at hv
          refine ih (fun p hp=>hF p (by simpa [blocksOf] using hp)) n.fst st _ E R a w _ hP (fun st' a' w' hs' hv' => ?_) (fun i st' a' w' hs' hv'=>hE i st' a' w' hs' hv') (fun st' a' w' hs' hv'=>hR st' a' w' hs' hv') hs hv
          obtain ⟨st2,g1,g2⟩:=normK_sound hX hs' hv'
          exact ihm st2 a' w' g1 g2
      exact key X.fuel st1 a w h1 h2
    · refine wp_loop_rounds 64 ?_
      have key:∀ (m:Nat) (st:St U El) (a:Act) (w:World),StRel X B S0 w0 st a w→iterU (fun st' K'=>exec X b n.fst st' K' E R) m st=some r→Code.rounds P b Q m a w:=by
        intro m
        induction m with
        | zero=>intro st a w _ hv; cases hv
        | succ m ihm =>
          intro st a w hs hv
          simp only [iterU] at hv
          exact ih (fun p hp=>hF p (by simpa [blocksOf] using hp)) n.fst st _ E R a w _ hP (fun st' a' w' hs' hv'=>ihm st' a' w' hs' hv') (fun i st' a' w' hs' hv'=>hE i st' a' w' hs' hv') (fun st' a' w' hs' hv'=>hR st' a' w' hs' hv') hs hv
      exact key 64 st a w hs hv
  | exit id=>intro hF n st K E R a w Q hP hK hE hR hs hv; exact wp_exit (hE id st a w hs hv)
  | ret=>intro hF n st K E R a w Q hP hK hE hR hs hv; exact wp_ret (hR st a w hs hv)
  | _=>intro hF n st K E R a w Q hP hK hE hR hs hv; simp [exec] at hv
theorem exec_soundF (hX:CtxOk P X) (hM:MOk P X) (c:Code) (hF:FragOk P X B S0 w0 r c) (n:Ann U) (st:St U El) (K:Kont U El) (E:Nat→Kont U El) (R:Kont U El) (a:Act) (w:World) (Q:Exit→Act→World→Prop)
    (h1:∀ st' a' w',StRel X B S0 w0 st' a' w'→K st'=some r→Q .normal a' w') (h2:∀ i st' a' w',StRel X B S0 w0 st' a' w'→E i st'=some r→Q (.exit i) a' w') (h3:∀ st' a' w',StRel X B S0 w0 st' a' w'→R st'=some r→Q .ret a' w')
    (h4:StRel X B S0 w0 st a w) (h5:exec X c n st K E R=some r):c.wp P Q a w:=exec_soundG (pan:=noPan) hX hM.g c hF n st K E R a w Q .no h1 h2 h3 h4 h5
theorem exec_sound (hF:NoFr X) (hX:CtxOk P X) (hM:MOk P X) (c:Code):∀ (n:Ann U) (st:St U El) (K:Kont U El) (E:Nat→Kont U El) (R:Kont U El) (a:Act) (w:World) (Q:Exit→Act→World→Prop),
    (∀ st' a' w',StRel X B S0 w0 st' a' w'→K st'=some r→Q .normal a' w')→(∀ i st' a' w',StRel X B S0 w0 st' a' w'→E i st'=some r→Q (.exit i) a' w')→(∀ st' a' w',StRel X B S0 w0 st' a' w'→R st'=some r→Q .ret a' w') →
    StRel X B S0 w0 st a w→exec X c n st K E R=some r→c.wp P Q a w:=exec_soundF hX hM c (hF.ok c)
def resVal (tmps:Array Value):List Nat→Value
  | [t]=>tmps.getD t undef
  | res => .tuple (res.map fun t=>tmps.getD t undef).toArray
theorem loadRes_nt (X:Ctx U El) (m n0:Nat) (k:St U El→Option (Fin U El)):∀ (lds:List (Nat×TypeId)) (p:Nat) (st:St U El),loadRes { X with nt:=m } n0 lds p st k=loadRes X n0 lds p st k:=by
  intro lds
  induction lds with
  | nil=>intro p st; rfl
  | cons q lds ih =>
    intro p st
    simp only [loadRes,ih]
    rfl
theorem loadRes_sound {n0 : Nat} {k : St U El → Option (Fin U El)} : ∀ (lds : List (Nat × TypeId)) (X : Ctx U El) (st : St U El) (a : Act), CtxOk P X → Inv X B S0 w0 S ρ st a w → n0 ≤ X.nt → loadRes X n0 lds X.nt st k = some r →
    ∃ (vals : List Value) (st' : St U El), vals.length = lds.length ∧ k st' = some r ∧ (∀ (i : Nat) (q : Nat × TypeId), lds[i]? = some q → q.1 < n0 ∧ ∃ v, vals[i]? = some v ∧ (do loadVar q.2 (← asAddr (a.tmps.getD q.1 undef))).run P w = .ok v w) ∧
      CtxOk P { X with nt:=X.nt+lds.length }∧Inv { X with nt:=X.nt+lds.length } B S0 w0 S ρ st' { a with tmps:=a.tmps++vals.toArray } w:=by
  intro lds
  induction lds with
  | nil=>intro X st a hX hi _ hv; exact ⟨[],st,rfl,hv,(fun i q h=>by cases h),hX,by simpa using hi⟩
  | cons q lds ih =>
    obtain ⟨b,ty⟩:=q
    intro X st a hX hi hn hv
    simp only [loadRes] at hv
    split at hv
    · rename_i td htd
      split at hv
      · rename_i sz ag hag
        obtain ⟨hb,hv⟩:=chk_some hv
        have hb:b < n0:=Nat.le_of_ble_eq_true hb
        obtain ⟨cs,off,bb,o',hk,hpv,hc⟩:=view_rel hX hi.heap (fun _ _ h=>h) (hi.tmps b) hv
        obtain ⟨ht,hz⟩:=td_agg (hX.td _ _ htd) hag
        obtain ⟨av,v,hk',hrun,hr⟩:=load_part ht hz hc hk
        have hX1:CtxOk P { X with nt:=X.nt+1 }:=⟨hX.mixed,hX.u,hX.td,hX.z,hX.one,hX.eq,hX.det,hX.dsp,hX.spec⟩
        have hi1:Inv { X with nt:=X.nt+1 } B S0 w0 S ρ ⟨(X.nt,av) :: st.t,st.h⟩ { a with tmps:=a.tmps.push v } w:=by
          refine ⟨hi.defers,by simp [hi.size],hi.below,hi.hB,hi.s0,hi.s1,hi.g0,fun i => ?_,hi.heap⟩
          simp only [tget]
          by_cases e:X.nt=i
          · subst e
            rw [Nat.beq_refl,Array.getD_eq_getD_getElem?,← hi.size,Array.getElem?_push_size]
            exact hr
          · rw [nbeq_ne e]
            have:(a.tmps.push v).getD i undef=a.tmps.getD i undef:=by
              rw [Array.getD_eq_getD_getElem?,Array.getD_eq_getD_getElem?,Array.getElem?_push,if_neg (by rw [hi.size]; exact fun h=>e h.symm)]
            rw [this]
            exact hi.tmps i
        obtain ⟨vals,st',h1,h2,h3,h4,h5⟩:=ih { X with nt:=X.nt+1 } _ _ hX1 hi1 (Nat.le_succ_of_le hn) (by rw [loadRes_nt]; exact hk')
        have e1:X.nt+1+lds.length=X.nt+(lds.length+1):=by omega
        refine ⟨v :: vals,st',by simp [h1],h2,fun i q hq => ?_,by simpa [e1] using h4,?_⟩
        · cases i with
          | zero =>
            cases hq
            refine ⟨hb,v,rfl,?_⟩
            simp [hpv,asAddr,hrun]
          | succ i =>
            obtain ⟨g1,x,g2,g3⟩:=h3 i q (by simpa using hq)
            refine ⟨g1,x,by simpa using g2,?_⟩
            have:(a.tmps.push v).getD q.1 undef=a.tmps.getD q.1 undef:=by
              rw [Array.getD_eq_getD_getElem?,Array.getD_eq_getD_getElem?,Array.getElem?_push,if_neg (by rw [hi.size]; omega)]
            rw [this] at g3
            exact g3
        · have e2 : a.tmps.push v ++ vals.toArray = a.tmps ++ (v :: vals).toArray := by
            apply Array.ext'
            simp
          simp only [e2] at h5
          simpa [e1] using h5
      · cases hv
    · cases hv
theorem run_resultsC {fn : Func} {lds : List (Nat × TypeId)} {res : List Nat} {nt : Nat} {tmps : Array Value} {vals : List Value} {w : World} (h : fn.results = (res.map (rvOf nt lds)).toArray) (hsz : tmps.size = nt) (hl : vals.length = lds.length)
    (hv:∀ (i:Nat) (q:Nat×TypeId),lds[i]? = some q→q.1 < nt∧∃ v,vals[i]? = some v∧(do loadVar q.2 (← asAddr (tmps.getD q.1 undef))).run P w = .ok v w):(results fn tmps).run P w = .ok (resVal (tmps++vals.toArray) res) w:=by
  have key:∀ (f:ResultVar→Sem Value),(∀ t,f (.tmp t)=pure (tmps.getD t undef))→(∀ b ty,f (.cell b ty)=(do loadVar ty (← asAddr (tmps.getD b undef))))→∀ l:List Nat,((l.map (rvOf nt lds)).mapM f).run P w = .ok (l.map fun t=>(tmps++vals.toArray).getD t undef) w:=by
    intro f hf hc l
    induction l with
    | nil=>simp
    | cons t l ih =>
      have h1:(f (rvOf nt lds t)).run P w = .ok ((tmps++vals.toArray).getD t undef) w:=by
        unfold rvOf
        split
        · rename_i hlt
          rw [hf,Sem.run_pure]
          congr 1
          rw [Array.getD_eq_getD_getElem?,Array.getD_eq_getD_getElem?,Array.getElem?_append_left (by omega)]
        · rename_i hlt
          cases hq:lds[t - nt]? with
          | none =>
            have:lds.length≤t - nt:=by simpa using hq
            simp only
            rw [hf,Sem.run_pure]
            congr 1
            rw [Array.getD_eq_getD_getElem?,Array.getD_eq_getD_getElem?,Array.getElem?_eq_none (by omega),Array.getElem?_eq_none (by simp; omega)]
          | some q =>
            obtain ⟨_,v,g1,g2⟩:=hv _ q hq
            simp only
            rw [hc,g2]
            congr 1
            rw [Array.getD_eq_getD_getElem?,Array.getElem?_append_right (by omega),hsz]
            simp [g1]
      simp only [List.map_cons,List.mapM_cons,h1,Sem.run_bind,Sem.run_pure,Result.andThen_ok,ih]
  unfold results
  rw [h]
  simp only [Sem.run_bind]
  rw [Array.mapM_eq_mapM_toList]
  simp only [List.toList_toArray,Sem.run_map]
  rw [key _ (fun _=>rfl) (fun _ _=>rfl)]
  simp only [Result.andThen_ok,Sem.run_pure]
  congr 1
  match res with
  | []=>rfl
  | [t]=>rfl
  | t :: u :: l=>simp [resVal]
theorem expIds_get:∀ (l:List Nat) (n:Nat) (id:Nat) (p:Nat×Nat),(expIds l n).find? (fun p=>Nat.beq p.1 id)=some p→p.1=id∧n≤p.2∧l[p.2 - n]? = some id:=by
  intro l
  induction l with
  | nil=>intro n id p h; simp [expIds] at h
  | cons i l ih =>
    intro n id p h
    simp only [expIds,List.find?_cons] at h
    by_cases e:i=id
    · subst e
      simp only [Nat.beq_refl] at h
      cases h
      simp
    · simp only [nbeq_ne e] at h
      obtain ⟨h1,h2,h3⟩:=ih (n+1) id p h
      refine ⟨h1,by omega,?_⟩
      rw [show p.2 - n=(p.2 - (n+1))+1 by omega,List.getElem?_cons_succ]
      exact h3
theorem runFnH_sound {f : FuncId} {fn : Func} {body : Code} {nm : Norm U} {lds : List (Nat × TypeId)} {res ex : List Nat} {args : List (AV U El)} {v : AV U El} {h : Heap U El} (hX : CtxOk P X) (hM : MOk P X) (hcall : ∀ as w, (callFunc f as).run P w = .ok (.enter f as) w)
    (hf:P.funcs[f]? = some fn) (hb:fn.body=some body) (hnt:fn.ntmps=X.nt) (hres:fn.results=(res.map (rvOf X.nt lds)).toArray) (hargs:args.length≤X.nt) (hex:ex.Nodup) (h4:(h.map (·.1)).all (fun i=>Nat.blt i 4)=true)
    (hv:∀ (S:Nat→Prop) (w:World) (a:Act),X.E.G w→StRel X (From w) S w ⟨args0 args 0,[]⟩ a w→∀ Q:Exit→Act→World→Prop,(∀ st' a' w',StRel X (From w) S w st' a' w'→(loadRes X X.nt lds X.nt st' fun st=>normK nm st (retFin res ex))=some (v,h)→Q .normal a' w'∧Q .ret a' w')→body.wp P Q a w):CallSpec P X.E f args v h:=by
  have hget4:∀ (l:List (Nat×Nat)) (H r:Heap U El),expH H l=some r→∀ j b,hget r j=some b→∃ id u xs,(id,j)∈l∧b = .rows u xs∧hget H id=some (.rows u xs):=by
    intro l
    induction l with
    | nil=>intro H r hr j b hg; simp [expH] at hr; subst hr; cases hg
    | cons p l ih =>
      intro H r hr j b hg
      obtain ⟨id,m⟩:=p
      simp only [expH] at hr
      split at hr
      · rename_i u xs hgi
        split at hr
        · rename_i r' hr'
          cases hr
          simp only [hget] at hg
          by_cases e:m=j
          · subst e; rw [Nat.beq_refl] at hg; cases hg; exact ⟨id,u,xs,by simp,rfl,hgi⟩
          · rw [nbeq_ne e] at hg
            obtain ⟨id',u',xs',g1,g2,g3⟩:=ih H r' hr' j b hg
            exact ⟨id',u',xs',by simp [g1],g2,g3⟩
        · cases hr
      · cases hr
  have hmem:∀ (l:List Nat) (n id m:Nat),(id,m)∈expIds l n→n≤m∧l[m - n]? = some id:=by
    intro l
    induction l with
    | nil=>intro n id m h; simp [expIds] at h
    | cons i l ih =>
      intro n id m h
      simp only [expIds,List.mem_cons,Prod.mk.injEq] at h
      rcases h with ⟨rfl,rfl⟩ | h
      · simp
      · obtain ⟨h1, h2⟩ := ih (n + 1) id m h
        exact ⟨by omega,by rw [show m - n=(m - (n+1))+1 by omega,List.getElem?_cons_succ]; exact h2⟩
  have hfin:∀ st',retFin res ex st'=some (v,h)→∃ vs,expL (expIds ex 0) (res.map (tget st'.t))=some vs∧expH st'.h (expIds ex 0)=some h∧(∀ x,vs=[x]→v=x)∧((∀ x,vs≠[x])→v = .tup vs):=by
    intro st' hr
    unfold retFin at hr
    split at hr
    · rename_i x hh e1 e2
      cases hr
      exact ⟨_,e1,e2,fun y hy=>by cases hy; rfl,fun hn=>absurd rfl (hn _)⟩
    · rename_i vs hh e1 e2 e3
      cases hr
      exact ⟨_,e2,e3,fun y hy=>absurd hy (e1 y),fun _=>rfl⟩
    · cases hr
  refine ⟨hcall,fun j b hg => ?_,fun S w vs hlt hG hrel => ?_⟩
  · have : ∀ (l : Heap U El), (l.map (·.1)).all (fun i => Nat.blt i 4) = true → hget l j = some b → j < 4 := by
      intro l
      induction l with
      | nil=>intro _ h; cases h
      | cons p l ih =>
        intro h1 h2
        obtain ⟨i,c⟩:=p
        simp only [List.map_cons,List.all_cons,Bool.and_eq_true] at h1
        simp only [hget] at h2
        by_cases e:i=j
        · subst e; exact Nat.le_of_ble_eq_true h1.1
        · rw [nbeq_ne e] at h2; exact ih h1.2 h2
    exact this h h4 hg
  · refine calls_of_wp hf hb ?_
    have hsz:(vs++Array.replicate (fn.ntmps - vs.size) undef).size=X.nt:=by
      have:=hrel.1
      simp; omega
    have hget0:∀ (l:List (AV U El)) (m i:Nat),tget (args0 l m) i=if m≤i then (l[i - m]?).getD .any else .any:=by
      intro l
      induction l with
      | nil=>intro m i; simp [args0,tget]
      | cons c l ih =>
        intro m i
        simp only [args0,tget]
        by_cases e:m=i
        · subst e; simp [Nat.beq_refl]
        · rw [nbeq_ne e, ih]
          simp only [cond]
          by_cases h1:m≤i
          · rw [if_pos (by omega),if_pos h1,show i - m=(i - (m+1))+1 by omega,List.getElem?_cons_succ]
          · rw [if_neg (by omega),if_neg h1]
    have h0:StRel X (From w) S w ⟨args0 args 0,[]⟩ { tmps:=vs++Array.replicate (fn.ntmps - vs.size) undef,defers:=[] } w:=by
      refine ⟨S,fun _=>none,rfl,hsz,Fr.refl _ _,fun _ hk=>hk,fun _ h=>h,fun _ h => .inl h,fun w' hb=>hX.u.gst _ _ hG hb.below,fun i => ?_,HRel.nil hlt _⟩
      show Rel X.E S _ w (tget (args0 args 0) i) _
      rw [hget0]
      simp only [Nat.zero_le,if_true,Nat.sub_zero]
      cases hc:args[i]? with
      | none=>exact .any _
      | some c =>
        have hi:i < vs.size:=by rw [hrel.1]; exact (List.getElem?_eq_some_iff.1 hc).1
        simp only [Option.getD_some]
        rw [Array.getD_eq_getD_getElem?,Array.getElem?_append_left hi,Array.getElem?_eq_getElem hi]
        exact hrel.2 i c _ hc (Array.getElem?_eq_getElem hi)
    have hret : ∀ (X' : Ctx U El) (st' : St U El) (a' : Act) (w' : World), X'.E = X.E → StRel X' (From w) S w st' a' w' → retFin res ex st' = some (v, h) → ∃ v' S' ρ', Ending.returned (resVal a'.tmps res) = .returned v' ∧ Step S (fun _ => none) w S' ρ' w' ∧ HRel X.E S' ρ' w' (From w) h ∧ Rel X.E S' ρ' w' v v' := by
      rintro X' st' a' w' hE ⟨S',ρ',hi⟩ hr
      have hiH:=hi.heap
      have hiT:=hi.tmps
      rw [hE] at hiH hiT
      obtain ⟨cs,e1,e2,e3,e4⟩:=hfin st' hr
      refine ⟨_,S',fun m=>(ex[m]?).bind ρ',rfl,⟨hi.below,hi.s0,hi.s1,fun _ _ h=>(by cases h),hlt⟩,?_,?_⟩
      · refine ⟨fun j b hg => ?_, fun i j b b' l l' hgi hgj hne hli hlj hn hn' => ?_, hiH.lt⟩
        · obtain ⟨id, u, xs, g1, rfl, g2⟩ := hget4 _ _ _ e2 j b hg
          obtain ⟨_,g3⟩:=hmem _ _ _ _ g1
          obtain ⟨l,hl,hb⟩:=hiH.get id _ g2
          refine ⟨l,by simp only [Nat.sub_zero] at g3; simp [g3,hl],?_⟩
          obtain ⟨h1,h2,h3,h4⟩:=hb
          refine ⟨h1,h2,h3,fun hn => ?_⟩
          obtain ⟨h5,h6,c,hh,h7,h8⟩:=h4 hn
          exact ⟨h5,h6,c,hh,h7,fun i x j a hi' hj=>by obtain ⟨vv,hv,hr⟩:=h8 i x j a hi' hj; exact ⟨vv,hv,hr.cellρ hX.u (hX.u.cell u x a (List.mem_of_getElem? hj))⟩⟩
        · obtain ⟨id, u, xs, g1, _, g2⟩ := hget4 _ _ _ e2 i b hgi
          obtain ⟨id',u',xs',k1,_,k2⟩:=hget4 _ _ _ e2 j b' hgj
          obtain ⟨_,g3⟩:=hmem _ _ _ _ g1
          obtain ⟨_,k3⟩:=hmem _ _ _ _ k1
          simp only [Nat.sub_zero] at g3 k3
          simp only [g3,k3,Option.bind_some] at hli hlj
          refine hiH.inj id id' _ _ l l' g2 k2 ?_ hli hlj hn hn'
          rintro rfl
          obtain ⟨q1,q2⟩:=List.getElem?_eq_some_iff.1 g3
          obtain ⟨q3,q4⟩:=List.getElem?_eq_some_iff.1 k3
          exact hne ((List.getElem?_inj q1 hex).1 (g3.trans k3.symm))
      · have one : ∀ (t : Nat) (c : AV U El), expAV (expIds ex 0) (tget st'.t t) = some c → Rel X.E S' (fun m => (ex[m]?).bind ρ') w' c (a'.tmps.getD t undef) := by
          intro t c hc
          have hrt:=hiT t
          generalize a'.tmps.getD t undef=q at hrt ⊢
          unfold expAV at hc
          split at hc
          · rename_i id e
            rw [e] at hrt
            split at hc
            · rename_i p hp
              cases hc
              obtain ⟨_,_,g⟩:=expIds_get _ _ _ _ hp
              simp only [Nat.sub_zero] at g
              cases hrt with
              | ful _ cap l hl h1 h2=>exact .ful _ cap l (by simp [g,hl]) h1 h2
              | fulN _ l hl h1 h2=>exact .fulN _ l (by simp [g,hl]) h1 h2
            · cases hc
          · rename_i cs' e
            rw [e] at hrt
            cases hall:cs'.all AV.cell with
            | false=>rw [hall] at hc; cases hc
            | true =>
              rw [hall] at hc
              cases hc
              cases hrt with
              | agg _ vs' hl hrel'=>exact .agg _ _ hl fun i c v hci hvi=>(hrel' i c v hci hvi).cellρ hX.u (by simp at hall; exact hall c (List.mem_of_getElem? hci))
          · cases hcell : (tget st'.t t).cell with
            | false=>rw [hcell] at hc; cases hc
            | true=>rw [hcell] at hc; cases hc; exact hrt.cellρ hX.u hcell
        have all:∀ (l:List Nat) (ds:List (AV U El)),expL (expIds ex 0) (l.map (tget st'.t))=some ds→ds.length=l.length∧∀ (i:Nat) d t,ds[i]? = some d→l[i]? = some t→Rel X.E S' (fun m=>(ex[m]?).bind ρ') w' d (a'.tmps.getD t undef):=by
          intro l
          induction l with
          | nil=>intro ds h; simp [expL] at h; subst h; simp
          | cons t l ih =>
            intro ds h
            simp only [List.map_cons,expL] at h
            split at h
            · rename_i d hd
              split at h
              · rename_i ds' hds'
                cases h
                obtain ⟨g1,g2⟩:=ih ds' hds'
                refine ⟨by simp [g1],fun i d' t' hd' ht' => ?_⟩
                cases i with
                | zero=>simp at hd' ht'; subst hd' ht'; exact one _ _ hd
                | succ i=>exact g2 i d' t' (by simpa using hd') (by simpa using ht')
              · cases h
            · cases h
        obtain ⟨g1,g2⟩:=all res cs e1
        match hrs:res,g1 with
        | [t], g1 =>
          obtain ⟨c,rfl⟩:∃ c,cs=[c]:=by
            match cs,g1 with
            | [c],_=>exact ⟨c,rfl⟩
          rw [e3 c rfl]
          exact g2 0 c t rfl rfl
        | [], g1 =>
          have:cs=[]:=List.eq_nil_of_length_eq_zero g1
          subst this
          rw [e4 (by simp)]
          exact .tup _ _ (by simp) (by simp)
        | t :: u :: l, g1 =>
          have hne:∀ x,cs≠[x]:=fun x hx=>by subst hx; simp at g1
          rw [e4 hne]
          refine .tup _ _ (by simp [g1]) fun i c v hc hv => ?_
          have hl:i < (t :: u :: l).length:=by rw [← g1]; exact (List.getElem?_eq_some_iff.1 hc).1
          have:v=a'.tmps.getD ((t :: u :: l)[i]) undef:=by
            simp only [List.getElem?_toArray,List.getElem?_map,List.getElem?_eq_getElem hl,Option.map_some,Option.some.injEq] at hv
            exact hv.symm
          rw [this]
          exact g2 i c _ hc (List.getElem?_eq_getElem hl)
    have hret2:∀ st' a' w',StRel X (From w) S w st' a' w'→loadRes X X.nt lds X.nt st' (fun st=>normK nm st (retFin res ex))=some (v,h)→a'.defers=[]∧∃ x,(results fn a'.tmps).run P w' = .ok x w'∧∃ v' S' ρ',Ending.returned x = .returned v'∧Step S (fun _=>none) w S' ρ' w'∧HRel X.E S' ρ' w' (From w) h∧Rel X.E S' ρ' w' v v':=by
      rintro st' a' w' ⟨S1,ρ1,hi⟩ hr
      obtain ⟨vals,st2,l1,l2,l3,l4,l5⟩:=loadRes_sound lds X st' a' hX hi (Nat.le_refl _) hr
      obtain ⟨st3,n1,n2⟩:=normK_sound l4 ⟨S1,ρ1,l5⟩ l2
      exact ⟨hi.defers,_,run_resultsC hres hi.size l1 l3,hret { X with nt:=X.nt+lds.length } st3 _ w' rfl n1 n2⟩
    exact hv S w _ hG h0 _ fun st' a' w' hs hr=>⟨hret2 st' a' w' hs hr,hret2 st' a' w' hs hr⟩
theorem runFnC_soundF {f:FuncId} {fn:Func} {body:Code} {n:Ann U} {nm:Norm U} {lds:List (Nat×TypeId)} {res ex:List Nat} {args:List (AV U El)} {v:AV U El} {h:Heap U El} (hX:CtxOk P X) (hM:MOk P X) (hcall:∀ as w,(callFunc f as).run P w = .ok (.enter f as) w)
    (hf:P.funcs[f]? = some fn) (hb:fn.body=some body) (hnt:fn.ntmps=X.nt) (hres:fn.results=(res.map (rvOf X.nt lds)).toArray) (hargs:args.length≤X.nt) (hex:ex.Nodup) (h4:(h.map (·.1)).all (fun i=>Nat.blt i 4)=true)
    (hv:runFnC X body n nm lds res ex args=some (v,h)) (hF:∀ (S:Nat→Prop) (w:World),FragOk P X (From w) S w (v,h) body):CallSpec P X.E f args v h:=by
  refine runFnH_sound (nm:=nm) (lds:=lds) (res:=res) (ex:=ex) hX hM hcall hf hb hnt hres hargs hex h4 fun S w a hG h0 Q hk => ?_
  exact exec_soundF (r:=(v,h)) hX hM body (hF S w) n _ _ _ _ _ _ Q (fun st' a' w' hs hr=>(hk st' a' w' hs hr).1) (fun i st' a' w' hs hr=>by cases hr) (fun st' a' w' hs hr=>(hk st' a' w' hs hr).2) h0 hv
theorem runFnC_sound {f:FuncId} {fn:Func} {body:Code} {n:Ann U} {nm:Norm U} {lds:List (Nat×TypeId)} {res ex:List Nat} {args:List (AV U El)} {v:AV U El} {h:Heap U El} (hX:CtxOk P X) (hM:MOk P X) (hcall:∀ as w,(callFunc f as).run P w = .ok (.enter f as) w)
    (hf:P.funcs[f]? = some fn) (hb:fn.body=some body) (hnt:fn.ntmps=X.nt) (hres:fn.results=(res.map (rvOf X.nt lds)).toArray) (hargs:args.length≤X.nt) (hex:ex.Nodup) (h4:(h.map (·.1)).all (fun i=>Nat.blt i 4)=true)
    (hv:runFnC X body n nm lds res ex args=some (v,h)) (hF:NoFr X:=by rfl):CallSpec P X.E f args v h :=
  runFnC_soundF (nm:=nm) (lds:=lds) (res:=res) (ex:=ex) hX hM hcall hf hb hnt hres hargs hex h4 hv fun S w=>hF.ok body
theorem rvOf_nil (nt:Nat):rvOf nt []=ResultVar.tmp:=by
  funext r
  unfold rvOf
  split<;>rfl
theorem runFn_sound {f:FuncId} {fn:Func} {body:Code} {n:Ann U} {nm:Norm U} {res ex:List Nat} {args:List (AV U El)} {v:AV U El} {h:Heap U El} (hX:CtxOk P X) (hM:MOk P X) (hcall:∀ as w,(callFunc f as).run P w = .ok (.enter f as) w)
    (hf:P.funcs[f]? = some fn) (hb:fn.body=some body) (hnt:fn.ntmps=X.nt) (hres:fn.results=(res.map ResultVar.tmp).toArray) (hargs:args.length≤X.nt) (hex:ex.Nodup) (h4:(h.map (·.1)).all (fun i=>Nat.blt i 4)=true)
    (hv:runFn X body n nm res ex args=some (v,h)) (hF:NoFr X:=by rfl):CallSpec P X.E f args v h :=
  runFnC_sound (lds:=[]) hX hM hcall hf hb hnt (by rw [rvOf_nil]; exact hres) hargs hex h4 hv hF
theorem info_of {E:Univ U El} {t:TypeId} {i:TypeInfo} {z:Value} {u:U} (hi:P.info? t=some i) (hs:i.size=E.sz u) (hb:i.bytes=E.by_ u) (hz:i.zero=some z) (hzs:z.cells.size=E.sz u) (he:E.enc u (E.dflt u)=constAV.constL z.cells.toList) :
    ∃ i z, P.info? t = some i ∧ i.size = E.sz u ∧ i.bytes = E.by_ u ∧ i.zero = some z ∧ z.cells.size = E.sz u ∧
      ∀ (j:Nat) c,(E.enc u (E.dflt u))[j]? = some c→∃ v,z.cells[j]? = some v∧∀ S ρ w,Rel E S ρ w c v :=
  ⟨i,z,hi,hs,hb,hz,hzs,fun j c hj=>by
    rw [he] at hj
    have hl:j < z.cells.toList.length:=by rw [← constL_len (U:=U) (El:=El)]; exact (List.getElem?_eq_some_iff.1 hj).1
    exact ⟨_,by rw [← Array.getElem?_toList]; exact List.getElem?_eq_getElem hl,fun S ρ w=>constL_get _ j c _ hj (List.getElem?_eq_getElem hl)⟩⟩
abbrev Sp (U:Type) (El:U→Type):=List (AV U El)→(AV U El→Heap U El→Option (Fin U El))→Option (Fin U El)
structure SpOk (P:Program) (E:Univ U El) (f:FuncId) (sp:Sp U El):Prop where
  det:∀ vs,∃ oo:Option (AV U El×Heap U El),∀ k,sp vs k=oo.bind fun p=>k p.1 p.2
  ok:∀ vs k r,sp vs k=some r→∃ res ex,CallSpec P E f vs res ex∧k res ex=some r
def specOf:List (FuncId×Sp U El)→FuncId→Sp U El
  | [],_=>fun _ _=>none
  | (g,sp) :: l,f=>bif Nat.beq g f then sp else specOf l f
theorem specOf_ok {E:Univ U El}:∀ (l:List (FuncId×Sp U El)),(∀ p∈l,SpOk P E p.1 p.2)→∀ f,SpOk P E f (specOf l f):=by
  intro l
  induction l with
  | nil=>intro _ f; exact ⟨fun vs=>⟨none,fun k=>rfl⟩,fun vs k r h=>by cases h⟩
  | cons p l ih =>
    intro h f
    obtain ⟨g,sp⟩:=p
    simp only [specOf]
    by_cases e:g=f
    · subst e; rw [Nat.beq_refl]; exact h (g,sp) (by simp)
    · rw [nbeq_ne e]; exact ih (fun p hp=>h p (by simp [hp])) f
structure TabOk (P:Program) (E:Univ U El) (tds:List (TypeId×TD U)) (zeros:List (TypeId×Value)) (eqs:List (TypeId×List Nat)):Prop where
  mixed:P.follows .mixedOrders=true
  u:UGood P E
  td:∀ t d,tdGet tds t=some d→TDOk P E t d
  z:∀ t v,zGet zeros t=some v→∃ i,P.info? t=some i∧i.zero=some v
  one:∀ t td,tdGet tds t=some td→∃ i,P.info? t=some i∧(agT P t=false→i.size=1)
  eq:∀ t,eGet eqs t≠[]→EqOk P t (eGet eqs t)
def dspecOf:List (FuncId×MSp U El)→FuncId→Option (MSp U El)
  | [],_=>none
  | (g,sp) :: l,f=>bif Nat.beq g f then some sp else dspecOf l f
theorem dspecOf_ok {E:Univ U El}:∀ (l:List (FuncId×MSp U El)),(∀ p∈l,DSpOk P E p.1 p.2)→∀ f sp,dspecOf l f=some sp→DSpOk P E f sp:=by
  intro l
  induction l with
  | nil=>intro _ f sp h; cases h
  | cons p l ih =>
    intro h f sp hs
    obtain ⟨g,q⟩:=p
    simp only [dspecOf] at hs
    by_cases e:g=f
    · subst e; rw [Nat.beq_refl] at hs; cases hs; exact h (g,sp) (by simp)
    · rw [nbeq_ne e] at hs; exact ih (fun p hp=>h p (by simp [hp])) f sp hs
theorem ctxOk {E:Univ U El} {tds:List (TypeId×TD U)} {zeros:List (TypeId×Value)} {eqs:List (TypeId×List Nat)} {l:List (FuncId×Sp U El)} {ds:List (FuncId×MSp U El)} {fuel nt:Nat} {m:FuncId→Option (Nat→List (AV U El)→St U El→(AV U El→St U El→Option (Fin U El))→Option (Fin U El))} {fg:Nat→Option (St U El→(St U El→Option (Fin U El))→Option (Fin U El))} (hT:TabOk P E tds zeros eqs) (hl:∀ p∈l,SpOk P E p.1 p.2) (hd:∀ p∈ds,DSpOk P E p.1 p.2):CtxOk P ⟨E,tds,zeros,eqs,specOf l,fuel,nt,dspecOf ds,m,fg⟩ :=
  ⟨hT.mixed,hT.u,hT.td,hT.z,hT.one,hT.eq,fun f vs=>(specOf_ok l hl f).det vs,dspecOf_ok ds hd,fun f vs k r h=>(specOf_ok l hl f).ok vs k r h⟩
theorem td_all {tds:List (TypeId×TD U)} {Q:TypeId→TD U→Prop} (h:∀ p∈tds,Q p.1 p.2):∀ t d,tdGet tds t=some d→Q t d:=by
  induction tds with
  | nil=>intro t d hd; cases hd
  | cons p l ih =>
    intro t d hd
    obtain ⟨j,e⟩:=p
    simp only [tdGet] at hd
    by_cases hj:j=t
    · subst hj; rw [Nat.beq_refl] at hd; cases hd; exact h (j,d) (by simp)
    · rw [nbeq_ne hj] at hd; exact ih (fun p hp=>h p (by simp [hp])) t d hd
theorem z_all {zs:List (TypeId×Value)} {Q:TypeId→Value→Prop} (h:∀ p∈zs,Q p.1 p.2):∀ t d,zGet zs t=some d→Q t d:=by
  induction zs with
  | nil=>intro t d hd; cases hd
  | cons p l ih =>
    intro t d hd
    obtain ⟨j,e⟩:=p
    simp only [zGet] at hd
    by_cases hj:j=t
    · subst hj; rw [Nat.beq_refl] at hd; cases hd; exact h (j,d) (by simp)
    · rw [nbeq_ne hj] at hd; exact ih (fun p hp=>h p (by simp [hp])) t d hd
theorem e_all {es:List (TypeId×List Nat)} {Q:TypeId→List Nat→Prop} (h:∀ p∈es,Q p.1 p.2):∀ t,eGet es t≠[]→Q t (eGet es t):=by
  induction es with
  | nil=>intro t hd; exact absurd rfl hd
  | cons p l ih =>
    intro t hd
    obtain ⟨j,e⟩:=p
    simp only [eGet] at hd ⊢
    by_cases hj:j=t
    · subst hj; rw [Nat.beq_refl]; exact h (j,e) (by simp)
    · rw [nbeq_ne hj] at hd ⊢; exact ih (fun p hp=>h p (by simp [hp])) t hd
end
end Go.Proofs.Ytkeplmpcijigaaa
