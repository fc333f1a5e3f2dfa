/- Renaming a block; slices in cells of boxes become rows of their own. -/
import Derived.Test.YtkeplmpcijigaaaLM
namespace Go.Proofs.Ytkeplmpcijigaaa
set_option linter.unusedVariables false
set_option linter.unusedSectionVars false
set_option linter.unusedSimpArgs false
open Go.RowKit
section
variable {U:Type} {El:U→Type} {P:Program} {X:Ctx U El} {S S0:Nat→Prop} {ρ ρ':Rho} {w w0:World} [DecidableEq U] [Drw]
variable {a:Act} {st:St U El} {B:Bd} {r:Fin U El}
theorem Rel.renA {E:Univ U El} {c:AV U El} {v:Value} (hg:UGood P E) {σ:Nat→Nat} (hr:Rel E S ρ w c v) (hσ:∀ j l,ρ j=some l→ρ' (σ j)=some l):Rel E S ρ' w (c.ren σ) v:=by
  have ix:∀ {cs:List (AV U El)} {i:Nat} {c':AV U El},(cs.map (AV.ren σ))[i]? = some c'→∃ c,cs[i]? = some c∧c.ren σ=c':=fun h=>by simpa [List.getElem?_map,Option.map_eq_some_iff] using h
  induction hr with
  | any v=>exact .any v
  | bool b=>exact .bool b
  | int k n=>exact .int k n
  | str s=>exact .str s
  | nilp=>exact .nilp
  | nils=>exact .nils
  | nili=>exact .nili
  | nilf=>exact .nilf
  | nilm=>exact .nilm
  | agg cs vs hl h ih =>
    show Rel E S ρ' w (.agg (AV.ren.renL σ cs)) _
    rw [renL_map]
    refine .agg _ vs (by simp [hl]) fun i c' v hc hv => ?_
    obtain ⟨c,h1,rfl⟩:=ix hc
    exact ih i c v h1 hv
  | tup cs vs hl h ih =>
    show Rel E S ρ' w (.tup (AV.ren.renL σ cs)) _
    rw [renL_map]
    refine .tup _ vs (by simp [hl]) fun i c' v hc hv => ?_
    obtain ⟨c,h1,rfl⟩:=ix hc
    exact ih i c v h1 hv
  | lstE u ao cap=>exact .lstE u ao cap
  | lst u xs b off cap val hb hc hcell h ih=>exact .lst u xs b off cap val hb hc hcell fun i x j c hi hj=>(h i x j c hi hj).cellρ hg (hg.cell u x c (List.mem_of_getElem? hj))
  | ful j cap l hl h1 h2=>exact .ful _ cap l (hσ _ _ hl) h1 h2
  | fulN j l hl h1 h2=>exact .fulN _ l (hσ _ _ hl) h1 h2
  | own j lo len cap l hl h1 h2 h3=>exact .own _ lo len cap l (hσ _ _ hl) h1 h2 h3
  | ownE j lo ao cap=>exact .ownE _ lo ao cap
  | ptr j off l hl=>exact .ptr _ off l (hσ _ _ hl)
  | row j i off l hl=>exact .row _ i off l (hσ _ _ hl)
  | mp j l hl=>exact .mp _ l (hσ _ _ hl)
  | fmp u v es b ents clock hb hh hn hf hk hv ihk ihv=>exact .fmp u v es b ents clock hb hh hn hf (fun i e p j c x h1 h2 h3 h4=>(hk i e p j c x h1 h2 h3 h4).cellρ hg (hg.cell u p.1 c (List.mem_of_getElem? h3))) (fun i e p j c x h1 h2 h3 h4=>(hv i e p j c x h1 h2 h3 h4).cellρ hg (hg.cell v p.2 c (List.mem_of_getElem? h3)))
  | pel u xs i off b o cap h hi ih =>
    refine .pel u xs i off b o cap ?_ hi
    exact ih
  | pcs cs off b o val hb hcell h ih =>
    show Rel E S ρ' w (.pcs (AV.ren.renL σ cs) off) _
    rw [renL_map]
    refine .pcs _ off b o val (fun hn=>hb (by rintro rfl; exact hn rfl)) (fun j c' hj => ?_) fun j c' hj => ?_
    · obtain ⟨c, h1, _⟩ := ix hj
      exact hcell j c h1
    · obtain ⟨c, h1, rfl⟩ := ix hj
      exact ih j c h1
  | fn f fs cs vf vc hlf hlc hf hc ihf ihc =>
    show Rel E S ρ' w (.fn f (AV.ren.renL σ fs) (AV.ren.renL σ cs)) _
    rw [renL_map,renL_map]
    refine .fn f _ _ vf vc (by simp [hlf]) (by simp [hlc]) (fun i c' v hc hv => ?_) (fun i c' v hc hv => ?_)
    · obtain ⟨c, h1, rfl⟩ := ix hc
      exact ihf i c v h1 hv
    · obtain ⟨c, h1, rfl⟩ := ix hc
      exact ihc i c v h1 hv
  | err t v=>exact .err t v
theorem BlkRel.renA {E:Univ U El} {l:Loc} {b:Blk U El} {σ:Nat→Nat} (hg:UGood P E) (h:BlkRel E S ρ w B l b) (hσ:∀ j l,ρ j=some l→ρ' (σ j)=some l):BlkRel E S ρ' w B l (b.ren σ b.tag):=by
  cases b with
  | rows u xs =>
    obtain ⟨h1,h2,h3,h4⟩:=h
    refine ⟨h1,h2,h3,fun hn => ?_⟩
    obtain ⟨h5,h6,c,hh,h7,h8⟩:=h4 hn
    exact ⟨h5,h6,c,hh,h7,fun i x j a hi hj=>by obtain ⟨v,hv,hr⟩:=h8 i x j a hi hj; exact ⟨v,hv,hr.cellρ hg (hg.cell u x a (List.mem_of_getElem? hj))⟩⟩
  | map u v es =>
    obtain ⟨h1,h4,h5,c0,c1,hh,h6,h7⟩:=h
    exact ⟨h1,h4,h5,c0,c1,hh,h6,fun i e p hi hj=>⟨(h7 i e p hi hj).1.cellρ hg,(h7 i e p hi hj).2.cellρ hg⟩⟩
  | amap u ks cs =>
    obtain ⟨h1,h4,h5,c0,c1,hh,h6,h7,h8⟩:=h
    refine ⟨h1,h4,h5,c0,c1,hh,h6,by simpa using h7,fun i e y c hi hj hk => ?_⟩
    simp only [List.getElem?_map,Option.map_eq_some_iff] at hk
    obtain ⟨a0,ha0,rfl⟩:=hk
    exact ⟨(h8 i e y a0 hi hj ha0).1.cellρ hg,(h8 i e y a0 hi hj ha0).2.renA hg hσ⟩
  | box t cs =>
    obtain ⟨h0,h1,h2⟩:=h
    refine ⟨h0,by simpa using h1,fun hn => ?_⟩
    obtain ⟨h5,h6,c,e,hh,h7,h8⟩:=h2 hn
    refine ⟨h5,h6,c,e,hh,h7,fun j a hj => ?_⟩
    simp only [List.getElem?_map,Option.map_eq_some_iff] at hj
    obtain ⟨a0,ha0,rfl⟩:=hj
    obtain ⟨v,hv,hr⟩:=h8 j a0 ha0
    exact ⟨v,hv,hr.renA hg hσ⟩
  | bld T j =>
    obtain ⟨h1,h4,h5,c0,c1,hh,h6,h7,h8⟩:=h
    exact ⟨h1,h4,h5,c0,c1,hh,h6,h7,h8.renA hg hσ⟩
theorem tget_rename (id j:Nat) (t:Tmps U El) (i:Nat):tget (trename id j t) i=(tget t i).ren (ren1 id j):=by
  induction t with
  | nil=>rfl
  | cons p t ih =>
    obtain ⟨k,v⟩:=p
    simp only [trename,tget]
    cases Nat.beq k i<;>simp [ih]
theorem hget_rename {id j:Nat} (hne:id≠j):∀ {h:Heap U El},hget h j=none→∀ i b,hget (hrename id j h) i=some b→∃ i0 b0,ren1 id j i0=i∧hget h i0=some b0∧b=b0.ren (ren1 id j) b0.tag:=by
  intro h
  induction h with
  | nil=>intro _ i b h; cases h
  | cons p h ih =>
    obtain ⟨k,c⟩:=p
    intro hj i b hg
    have hkj:k≠j:=by
      rintro rfl
      simp only [hget,Nat.beq_refl] at hj
      cases hj
    have hj':hget h j=none:=by simpa [hget,nbeq_ne hkj] using hj
    simp only [hrename,hget] at hg
    by_cases e:ren1 id j k=i
    · rw [e, Nat.beq_refl] at hg
      cases hg
      exact ⟨k,c,e,by simp [hget,Nat.beq_refl],rfl⟩
    · rw [nbeq_ne e] at hg
      obtain ⟨i0,b0,h1,h2,h3⟩:=ih hj' i b hg
      refine ⟨i0,b0,h1,?_,h3⟩
      have:k≠i0:=by rintro rfl; exact e h1
      simp only [hget,nbeq_ne this]
      exact h2
theorem Inv.rename (hX:CtxOk P X) {id j:Nat} (hne:id≠j) (hi:Inv X B S0 w0 S ρ st a w) (hj:ρ j=none):∃ ρ',Inv X B S0 w0 S ρ' (st.rename id j) a w:=by
  obtain ⟨ρ',hρ'⟩:∃ ρ':Rho,ρ'=fun i=>if i=j then ρ id else if i=id then none else ρ i:=⟨_,rfl⟩
  have hσ:∀ k l,ρ k=some l→ρ' (ren1 id j k)=some l:=fun k l h=>by
    rw [hρ']
    unfold ren1
    by_cases e:k=id
    · subst e; rw [Nat.beq_refl]; simp [h]
    · rw [nbeq_ne e]
      have:k≠j:=by rintro rfl; rw [hj] at h; cases h
      simp [e,this,h]
  have hinj:∀ {k k':Nat},k≠j→k'≠j→ren1 id j k=ren1 id j k'→k=k':=fun {k k'} h1 h2 e=>by
    unfold ren1 at e
    by_cases e1:k=id<;>by_cases e2:k'=id
    · rw [e1,e2]
    · subst e1; rw [Nat.beq_refl,nbeq_ne e2] at e; exact absurd e.symm h2
    · subst e2; rw [Nat.beq_refl,nbeq_ne e1] at e; exact absurd e h1
    · rw [nbeq_ne e1,nbeq_ne e2] at e; exact e
  have hj0:hget st.h j=none:=by
    cases hg:hget st.h j with
    | none=>rfl
    | some b=>obtain ⟨l,hl,_⟩:=hi.heap.get j b hg; rw [hj] at hl; cases hl
  refine ⟨ρ',hi.defers,hi.size,hi.below,hi.hB,hi.s0,hi.s1,hi.g0,fun i => ?_,⟨fun i b hg => ?_,fun i i' b b' l l' hg hg' hn hl hl' hn1 hn2 => ?_,hi.heap.lt⟩⟩
  · show Rel X.E S ρ' w (tget (trename id j st.t) i) _
    rw [tget_rename]
    exact (hi.tmps i).renA hX.u hσ
  · obtain ⟨i0, b0, rfl, h2, rfl⟩ := hget_rename hne hj0 i b hg
    obtain ⟨l,hl,hb⟩:=hi.heap.get i0 b0 h2
    exact ⟨l,hσ i0 l hl,hb.renA hX.u hσ⟩
  · obtain ⟨i0, b0, rfl, h2, rfl⟩ := hget_rename hne hj0 i b hg
    obtain ⟨i1,b1,rfl,h4,rfl⟩:=hget_rename hne hj0 i' b' hg'
    obtain ⟨l0,hl0,_⟩:=hi.heap.get i0 b0 h2
    obtain ⟨l1,hl1,_⟩:=hi.heap.get i1 b1 h4
    have e0:=hσ i0 l0 hl0
    rw [hl] at e0; cases e0
    have e1:=hσ i1 l1 hl1
    rw [hl'] at e1; cases e1
    exact hi.heap.inj i0 i1 b0 b1 l l' h2 h4 (fun e=>hn (by rw [e])) hl0 hl1 hn1 hn2
theorem castCell_sound {b off j : Nat} {u : U} {k : St U El → Option (Fin U El)} (hX : CtxOk P X) (hs : StRel X B S0 w0 st a w) (hv : castCell st b off u j k = some r) : ∃ st', StRel X B S0 w0 st' a w ∧ k st' = some r := by
  obtain ⟨S,ρ,hi⟩:=hs
  unfold castCell at hv
  split at hv
  · rename_i tg0 cs0 hg0
    split at hv
    · rename_i id hc
      by_cases e:id=j
      · subst e
        rw [Nat.beq_refl] at hv
        exact ⟨st,⟨S,ρ,hi⟩,hv⟩
      · rw [nbeq_ne e] at hv
        obtain ⟨ρ',h'⟩:=(hi.forget hX j).rename hX e (by simp [Rho.del])
        exact ⟨_,⟨S,ρ',h'⟩,hv⟩
    · rename_i id hc
      by_cases e:id=j
      · subst e
        rw [Nat.beq_refl] at hv
        exact ⟨st,⟨S,ρ,hi⟩,hv⟩
      · rw [nbeq_ne e] at hv
        obtain ⟨ρ',h'⟩:=(hi.forget hX j).rename hX e (by simp [Rho.del])
        exact ⟨_,⟨S,ρ',h'⟩,hv⟩
    · split at hv
      · rename_i tg cs hg
        split at hv
        · rename_i hc
          have hf:=hi.forget hX j
          obtain ⟨l,hl,hb⟩:=hf.heap.get _ _ hg
          have hρj:(ρ.del j) j=none:=by simp [Rho.del]
          have hbj:b≠j:=by rintro rfl; rw [hρj] at hl; cases hl
          have e1:((ρ.del j).set j ⟨0,0,X.E.sz u,0⟩) j=some ⟨0,0,X.E.sz u,0⟩:=by simp [Rho.set]
          have hext:∀ i l',(ρ.del j) i=some l'→((ρ.del j).set j ⟨0,0,X.E.sz u,0⟩) i=some l':=fun i l' h=>by
            by_cases e:i=j
            · subst e; rw [hρj] at h; cases h
            · simp [Rho.set,e,h]
          have hext':∀ i l',((ρ.del j).set j ⟨0,0,X.E.sz u,0⟩) i=some l'→i≠j→(ρ.del j) i=some l':=fun i l' h e=>by simpa [Rho.set,e] using h
          have hgj:hget (st.forget j).h j=none:=by
            cases hh:hget (st.forget j).h j with
            | none=>rfl
            | some b0=>obtain ⟨l0,h0,_⟩:=hf.heap.get j b0 hh; rw [hρj] at h0; cases h0
          have hcase:∀ i c,hget (hset (st.forget j).h b (.box tg (cs.set off (.ful j)))) i=some c→(i=b∧c = .box tg (cs.set off (.ful j)))∨(i≠b∧hget (st.forget j).h i=some c):=fun i c h=>by
            rw [hget_set] at h
            by_cases e:i=b
            · subst e; rw [if_pos rfl,hg] at h; cases h; exact .inl ⟨rfl,rfl⟩
            · rw [if_neg e] at h; exact .inr ⟨e,h⟩
          refine ⟨⟨(st.forget j).t,(j,.rows u []) :: hset (st.forget j).h b (.box tg (cs.set off (.ful j)))⟩,⟨S,(ρ.del j).set j ⟨0,0,X.E.sz u,0⟩,hf.defers,hf.size,hf.below,hf.hB,hf.s0,hf.s1,hf.g0,fun i=>(hf.tmps i).mono (fun _ h=>h) (fun _ _=>rfl) hext,⟨fun i c hgi => ?_,fun i i' c c' l1 l2 hgi hgi' hne hli hli' hn1 hn2 => ?_,hf.heap.lt⟩⟩,hv⟩
          · simp only [hget] at hgi
            by_cases e:j=i
            · subst e
              rw [Nat.beq_refl] at hgi
              cases hgi
              exact ⟨_,e1,rfl,rfl,by simp,fun h=>absurd rfl h⟩
            · rw [nbeq_ne e] at hgi
              rcases hcase i c hgi with ⟨rfl,rfl⟩ | ⟨hib,hg2⟩
              · refine ⟨l, hext _ _ hl, ?_⟩
                obtain ⟨b0,b1,b2⟩:=hb
                refine ⟨b0,by simpa using b1,fun hn => ?_⟩
                obtain ⟨b3,b4,c0,e0,hh,b5,b6⟩:=b2 hn
                refine ⟨b3,b4,c0,e0,hh,b5,fun m x hm => ?_⟩
                by_cases em:m=off
                · subst em
                  obtain ⟨v,hv',hr⟩:=b6 m _ hc
                  have hml:m < cs.length:=(List.getElem?_eq_some_iff.1 hc).1
                  rw [List.getElem?_set_self hml] at hm
                  cases hm
                  cases hr
                  exact ⟨_,hv',.fulN j _ e1 rfl rfl⟩
                · rw [List.getElem?_set_ne (Ne.symm em)] at hm
                  obtain ⟨v,hv',hr⟩:=b6 m x hm
                  exact ⟨v,hv',hr.mono (fun _ h=>h) (fun _ _=>rfl) hext⟩
              · obtain ⟨l', hl', hb'⟩ := hf.heap.get i c hg2
                exact ⟨l',hext _ _ hl',hb'.mono (fun _ h=>h) (fun _ _=>rfl) hext (fun hn=>⟨rfl,(hb'.lt hn).2.2⟩)⟩
          · simp only [hget] at hgi hgi'
            by_cases ei:j=i
            · subst ei; rw [e1] at hli; cases hli; exact absurd rfl hn1
            · by_cases ei' : j = i'
              · subst ei'; rw [e1] at hli'; cases hli'; exact absurd rfl hn2
              · rw [nbeq_ne ei] at hgi
                rw [nbeq_ne ei'] at hgi'
                have k1:∃ c0,hget (st.forget j).h i=some c0:=by
                  rcases hcase i c hgi with ⟨rfl,_⟩ | ⟨_,h⟩
                  · exact ⟨_,hg⟩
                  · exact ⟨_,h⟩
                have k2:∃ c0,hget (st.forget j).h i'=some c0:=by
                  rcases hcase i' c' hgi' with ⟨rfl,_⟩ | ⟨_,h⟩
                  · exact ⟨_,hg⟩
                  · exact ⟨_,h⟩
                obtain ⟨c1,h1⟩:=k1
                obtain ⟨c2,h2⟩:=k2
                exact hf.heap.inj i i' c1 c2 l1 l2 h1 h2 hne (hext' i l1 hli (Ne.symm ei)) (hext' i' l2 hli' (Ne.symm ei')) hn1 hn2
        · exact ⟨st,⟨S,ρ,hi⟩,hv⟩
      · exact ⟨st,⟨S,ρ,hi⟩,hv⟩
    · exact ⟨st,⟨S,ρ,hi⟩,hv⟩
  · exact ⟨st,⟨S,ρ,hi⟩,hv⟩
theorem castCells_sound (hX:CtxOk P X):∀ (cs:List (Nat×Nat×U×Nat)) (st:St U El) (k:St U El→Option (Fin U El)),StRel X B S0 w0 st a w→castCells st cs k=some r→∃ st',StRel X B S0 w0 st' a w∧k st'=some r:=by
  intro cs
  induction cs with
  | nil=>intro st k hs hv; exact ⟨st,hs,hv⟩
  | cons c cs ih =>
    obtain ⟨b,off,u,j⟩:=c
    intro st k hs hv
    obtain ⟨st1,h1,h2⟩:=castCell_sound hX hs hv
    exact ih st1 k h1 h2
end
end Go.Proofs.Ytkeplmpcijigaaa
