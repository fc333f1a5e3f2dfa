/- What is stored into a row, or stands in a slice's literal, is given up: rows of the call's own become lists. -/
import Derived.Test.YtkeplmpcijigaaaLJ
namespace Go.Proofs.Ytkeplmpcijigaaa
set_option linter.unusedVariables false
set_option linter.unusedSectionVars false
set_option linter.unusedSimpArgs false
open Go.RowKit
section
variable {U:Type} {El:U→Type} {P:Program} {X:Ctx U El} {S S0:Nat→Prop} {ρ:Rho} {w w0:World} [DecidableEq U] [Drw]
variable {a:Act} {st:St U El} {B:Bd} {r:Fin U El}
theorem Inv.learn {t':Tmps U El} (hi:Inv X B S0 w0 S ρ st a w) (ht:∀ i,Rel X.E S ρ w (tget t' i) (a.tmps.getD i undef)):Inv X B S0 w0 S ρ ⟨t',st.h⟩ a w :=
  ⟨hi.defers,hi.size,hi.below,hi.hB,hi.s0,hi.s1,hi.g0,ht,hi.heap⟩
theorem Inv.share {id : Nat} {l : Loc} {b0 : Blk U El} (hX : CtxOk P X) (hi : Inv X B S0 w0 S ρ st a w) (hg : hget st.h id = some b0) (hl : ρ id = some l) :
    Inv X B S0 w0 (fun b=>S b∨(l.n≠0∧b=l.b)) (ρ.del id) (st.forget id) a w:=by
  have hf:=hi.forget hX id
  obtain ⟨l0,e0,hb⟩:=hi.heap.get _ _ hg
  rw [hl] at e0; cases e0
  refine ⟨hf.defers,hf.size,hf.below,hf.hB,fun b h => .inl (hf.s0 b h),fun b h => ?_,hf.g0,fun i=>(hf.tmps i).mono (fun _ h => .inl h) (fun _ _=>rfl) (fun _ _ h=>h),⟨fun j b hgj => ?_,hf.heap.inj,fun b h => ?_⟩⟩
  · rcases h with h | ⟨hn, rfl⟩
    · exact hf.s1 b h
    · exact .inr (hb.lt hn).2.1
  · obtain ⟨l', hl', hb'⟩ := hf.heap.get j b hgj
    refine ⟨l',hl',hb'.mono (fun _ h => .inl h) (fun _ _=>rfl) (fun _ _ h=>h) fun hn=>⟨rfl,fun h => ?_⟩⟩
    rcases h with h | ⟨hn',e⟩
    · exact (hb'.lt hn).2.2 h
    · simp only [St.forget, hget_kill, hget_del, Option.map_eq_some_iff] at hgj
      obtain ⟨b0,h0,_⟩:=hgj
      split at h0
      · cases h0
      · rename_i e1
        exact hi.heap.inj j id b0 _ l' l h0 hg e1 (by simpa [Rho.del,e1] using hl') hl hn hn' e
  · rcases h with h | ⟨hn, rfl⟩
    · exact hf.heap.lt b h
    · exact (hb.lt hn).1
theorem ful_lst {id : Nat} {l : Loc} {u : U} {xs : List (El u)} {v : Value} {ρ' : Rho} (hX : CtxOk P X) (hb : BlkRel X.E S ρ w B l (.rows u xs)) (hl : ρ id = some l) (hr : Rel X.E S ρ w (.ful id) v) : Rel X.E (fun b => S b ∨ (l.n ≠ 0 ∧ b = l.b)) ρ' w (.lst u xs) v := by
  obtain ⟨h1,h2,h3,h4⟩:=hb
  cases hxs:xs with
  | nil =>
    cases hr with
    | fulN _ l' hl' _ _=>exact .lstE _ _ _
    | ful _ cap l' hl' e1 e2 =>
      rw [hl] at hl'; cases hl'
      rw [h2,hxs]
      exact .lstE _ _ _
  | cons x0 xs0 =>
    have hn:l.n≠0:=by
      have:=Nat.mul_pos (show 0 < xs.length by rw [hxs]; simp) (hX.u.pos u)
      omega
    obtain ⟨h5,h6,c,hh,h7,h8⟩:=h4 hn
    cases hr with
    | fulN _ l' hl' e1 _=>rw [hl] at hl'; cases hl'; exact absurd e1 hn
    | ful _ cap l' hl' e1 e2 =>
      rw [hl] at hl'; cases hl'
      rw [← hxs,h2] at *
      have hv:∀ i j,∃ vv,∀ x c',xs[i]? = some x→(X.E.enc u x)[j]? = some c'→c[i * X.E.sz u+j]? = some vv∧Rel X.E S ρ w c' vv:=fun i j=>by
        cases hx:xs[i]? with
        | none=>exact ⟨undef,fun x c h=>by cases h⟩
        | some x =>
          cases hc:(X.E.enc u x)[j]? with
          | none=>exact ⟨undef,fun x' c h h'=>by cases h; rw [hc] at h'; cases h'⟩
          | some c' =>
            obtain ⟨vv,h9,h10⟩:=h8 i x j c' hx hc
            exact ⟨vv,fun x' c'' h h'=>by cases h; rw [hc] at h'; cases h'; exact ⟨h9,h10⟩⟩
      refine .lst u xs l.b 0 cap (fun i j=>Classical.choose (hv i j)) (.inr ⟨hn,rfl⟩) e2 (fun i x j c' hx hc => ?_) fun i x j c' hx hc => ?_
      · rw [Nat.zero_add, cell_of_row w l.b _ c _ (0, 0) hh]
        exact (Classical.choose_spec (hv i j) x c' hx hc).1
      · exact ((Classical.choose_spec (hv i j) x c' hx hc).2.mono (fun _ h => .inl h) (fun _ _=>rfl) (fun _ _ h=>h)).cellρ hX.u (hX.u.cell u x c' (List.mem_of_getElem? hc))
theorem mp_fmp {id:Nat} {l:Loc} {u v:U} {es:List (El u×El v)} {vv:Value} {ρ':Rho} (hX:CtxOk P X) (hb:BlkRel X.E S ρ w B l (.map u v es)) (hl:ρ id=some l) (hr:Rel X.E S ρ w (.mp id) vv):Rel X.E (fun b=>S b∨(l.n≠0∧b=l.b)) ρ' w (.fmp u v es) vv:=by
  obtain ⟨h1,h2,h3,ents,clock,h4,h5,h6⟩:=hb
  cases hr with
  | mp _ l' hl' =>
    rw [hl] at hl'; cases hl'
    exact .fmp u v es l.b ents clock (.inr ⟨by omega,rfl⟩) h4 h5 (fun i e p hi hp=>⟨(h6 i e p hi hp).1.fit.1,(h6 i e p hi hp).2.fit.1⟩)
      (fun i e p j c x hi hp hc hx=>(((h6 i e p hi hp).1.fit.2 j c x hc hx).mono (fun _ h => .inl h) (fun _ _=>rfl) (fun _ _ h=>h)).cellρ hX.u (hX.u.cell u p.1 c (List.mem_of_getElem? hc)))
      (fun i e p j c x hi hp hc hx=>(((h6 i e p hi hp).2.fit.2 j c x hc hx).mono (fun _ h => .inl h) (fun _ _=>rfl) (fun _ _ h=>h)).cellρ hX.u (hX.u.cell v p.2 c (List.mem_of_getElem? hc)))
theorem own_lst {id lo len : Nat} {l : Loc} {u : U} {xs : List (El u)} {v : Value} {ρ' : Rho} (hX : CtxOk P X) (hb : BlkRel X.E S ρ w B l (.rows u xs)) (hl : ρ id = some l) (hle : lo + len ≤ xs.length) (hr : Rel X.E S ρ w (.own id lo len) v) : Rel X.E (fun b => S b ∨ (l.n ≠ 0 ∧ b = l.b)) ρ' w (.lst u ((xs.drop lo).take len)) v := by
  obtain ⟨h1,h2,h3,h4⟩:=hb
  have hlen:((xs.drop lo).take len).length=len:=by simp; omega
  cases hr with
  | ownE _ _ ao cap=>rw [List.take_zero]; exact .lstE _ _ _
  | own _ _ _ cap l' hl' e1 e2 e3 =>
    rw [hl] at hl'; cases hl'
    by_cases h0:len=0
    · subst h0; rw [List.take_zero]; exact .lstE _ _ _
    · have hn : l.n ≠ 0 := by
        have:=Nat.mul_pos (show 0 < xs.length by omega) (hX.u.pos u)
        omega
      obtain ⟨h5,h6,c,hh,h7,h8⟩:=h4 hn
      have hget:∀ i x,((xs.drop lo).take len)[i]? = some x→xs[lo+i]? = some x:=fun i x h=>by
        rw [List.getElem?_take] at h
        split at h
        · rw [List.getElem?_drop] at h; exact h
        · cases h
      have hv:∀ i j,∃ vv,∀ x c',((xs.drop lo).take len)[i]? = some x→(X.E.enc u x)[j]? = some c'→c[(lo+i) * X.E.sz u+j]? = some vv∧Rel X.E S ρ w c' vv:=fun i j=>by
        cases hx:((xs.drop lo).take len)[i]? with
        | none=>exact ⟨undef,fun x c h=>by cases h⟩
        | some x =>
          cases hc:(X.E.enc u x)[j]? with
          | none=>exact ⟨undef,fun x' c h h'=>by cases h; rw [hc] at h'; cases h'⟩
          | some c' =>
            obtain ⟨vv,h9,h10⟩:=h8 (lo+i) x j c' (hget i x hx) hc
            exact ⟨vv,fun x' c'' h h'=>by cases h; rw [hc] at h'; cases h'; exact ⟨h9,h10⟩⟩
      have key:=Rel.lst (E:=X.E) (S:=fun b=>S b∨(l.n≠0∧b=l.b)) (ρ:=ρ') (w:=w) u ((xs.drop lo).take len) l.b (lo * X.E.sz u) cap (fun i j=>Classical.choose (hv i j)) (.inr ⟨hn,rfl⟩) (by rw [hlen]; exact e2) (fun i x j c' hx hc=>by
        rw [show lo * X.E.sz u+i * X.E.sz u+j=(lo+i) * X.E.sz u+j by rw [Nat.add_mul],cell_of_row w l.b _ c _ (0,0) hh]
        exact (Classical.choose_spec (hv i j) x c' hx hc).1) (fun i x j c' hx hc=>((Classical.choose_spec (hv i j) x c' hx hc).2.mono (fun _ h => .inl h) (fun _ _=>rfl) (fun _ _ h=>h)).cellρ hX.u (hX.u.cell u x c' (List.mem_of_getElem? hc)))
      rw [hlen,← h1] at key
      exact key
theorem shareRow_sound {s : Nat} {u : U} {k : St U El → Option (Fin U El)} (hX : CtxOk P X) (hs : StRel X B S0 w0 st a w) (hv : shareRow st s u k = some r) : ∃ st', StRel X B S0 w0 st' a w ∧ k st' = some r := by
  obtain ⟨S,ρ,hi⟩:=hs
  unfold shareRow at hv
  split at hv
  · exact ⟨st,⟨S,ρ,hi⟩,hv⟩
  · rename_i he
    refine ⟨_,⟨S,ρ,hi.learn (t':=(s,.lst u []) :: st.t) fun i => ?_⟩,hv⟩
    simp only [tget]
    by_cases e:s=i
    · subst e
      rw [Nat.beq_refl]
      have:=hi.tmps s
      rw [he] at this
      generalize a.tmps.getD s undef=q at this ⊢
      cases this
      exact .lstE _ _ _
    · rw [nbeq_ne e]; exact hi.tmps i
  · rename_i id he
    split at hv
    · rename_i v xs hg
      obtain ⟨l,hl,hb⟩:=hi.heap.get _ _ hg
      have hsh:=hi.share hX hg hl
      refine ⟨_,⟨_,_,hsh.learn (t':=(s,.lst v xs) :: (st.forget id).t) fun i => ?_⟩,hv⟩
      simp only [tget]
      by_cases e:s=i
      · subst e
        rw [Nat.beq_refl]
        have:=hi.tmps s
        rw [he] at this
        exact ful_lst hX hb hl this
      · rw [nbeq_ne e]; exact hsh.tmps i
    · cases hv
  · rename_i id lo len he
    split at hv
    · rename_i v xs hg
      obtain ⟨hck,hv⟩:=chk_some hv
      obtain ⟨l,hl,hb⟩:=hi.heap.get _ _ hg
      have hsh:=hi.share hX hg hl
      refine ⟨_,⟨_,_,hsh.learn (t':=(s,.lst v ((xs.drop lo).take len)) :: (st.forget id).t) fun i => ?_⟩,hv⟩
      simp only [tget]
      by_cases e:s=i
      · subst e
        rw [Nat.beq_refl]
        have:=hi.tmps s
        rw [he] at this
        exact own_lst hX hb hl (by simpa [nle] using hck) this
      · rw [nbeq_ne e]; exact hsh.tmps i
    · cases hv
  · exact ⟨st,⟨S,ρ,hi⟩,hv⟩
  · exact ⟨st,⟨S,ρ,hi⟩,hv⟩
  · rename_i id he
    split at hv
    · rename_i u v es hg
      obtain ⟨l,hl,hb⟩:=hi.heap.get _ _ hg
      have hsh:=hi.share hX hg hl
      refine ⟨_,⟨_,_,hsh.learn (t':=(s,.fmp u v es) :: (st.forget id).t) fun i => ?_⟩,hv⟩
      simp only [tget]
      by_cases e:s=i
      · subst e
        rw [Nat.beq_refl]
        have:=hi.tmps s
        rw [he] at this
        exact mp_fmp hX hb hl this
      · rw [nbeq_ne e]; exact hsh.tmps i
    · cases hv
  · cases hv
theorem shareCell_sound {s off : Nat} {u : U} {k : St U El → Option (Fin U El)} (hX : CtxOk P X) (hs : StRel X B S0 w0 st a w) (hv : shareCell st s off u k = some r) : ∃ st', StRel X B S0 w0 st' a w ∧ k st' = some r := by
  obtain ⟨S,ρ,hi⟩:=hs
  unfold shareCell at hv
  split at hv
  · rename_i cs he
    have hts:=hi.tmps s
    rw [he] at hts
    generalize hq:a.tmps.getD s undef=q at hts
    cases hts with
    | agg _ vs hlen hrel =>
      split at hv
      · exact ⟨st,⟨S,ρ,hi⟩,hv⟩
      · rename_i hc
        have hol:off < cs.length:=(List.getElem?_eq_some_iff.1 hc).1
        refine ⟨_,⟨S,ρ,hi.learn (t':=(s,.agg (cs.set off (.lst u []))) :: st.t) fun i => ?_⟩,hv⟩
        simp only [tget]
        by_cases e:s=i
        · subst e
          rw [Nat.beq_refl,hq]
          refine .agg _ vs (by simp [hlen]) fun m c v hm hv' => ?_
          by_cases em:m=off
          · subst em
            rw [List.getElem?_set_self hol] at hm
            cases hm
            have:=hrel m _ v hc hv'
            cases this
            exact .lstE _ _ _
          · rw [List.getElem?_set_ne (Ne.symm em)] at hm
            exact hrel m c v hm hv'
        · rw [nbeq_ne e]; exact hi.tmps i
      · rename_i id hc
        split at hv
        · rename_i v xs hg
          have hol:off < cs.length:=(List.getElem?_eq_some_iff.1 hc).1
          obtain ⟨l,hl,hb⟩:=hi.heap.get _ _ hg
          have hsh:=hi.share hX hg hl
          refine ⟨_,⟨_,_,hsh.learn (t':=(s,.agg ((cs.map (AV.kill id)).set off (.lst v xs))) :: (st.forget id).t) fun i => ?_⟩,hv⟩
          simp only [tget]
          by_cases e:s=i
          · subst e
            rw [Nat.beq_refl,hq]
            refine .agg _ vs (by simp [hlen]) fun m c v' hm hv' => ?_
            by_cases em:m=off
            · subst em
              rw [List.getElem?_set_self (by simpa using hol)] at hm
              cases hm
              exact ful_lst hX hb hl (hrel m _ v' hc hv')
            · rw [List.getElem?_set_ne (Ne.symm em)] at hm
              simp only [List.getElem?_map,Option.map_eq_some_iff] at hm
              obtain ⟨c0,hc0,rfl⟩:=hm
              exact ((hrel m c0 v' hc0 hv').kill hX.u id).mono (fun _ h => .inl h) (fun _ _=>rfl) (fun _ _ h=>h)
          · rw [nbeq_ne e]; exact hsh.tmps i
        · exact ⟨st,⟨S,ρ,hi⟩,hv⟩
      · exact ⟨st,⟨S,ρ,hi⟩,hv⟩
  · exact ⟨st,⟨S,ρ,hi⟩,hv⟩
theorem shareOffs_sound (hX : CtxOk P X) {s : Nat} : ∀ (l : List Nat) (st : St U El) (k : St U El → Option (Fin U El)), StRel X B S0 w0 st a w → shareOffs st s l k = some r → ∃ st', StRel X B S0 w0 st' a w ∧ k st' = some r := by
  intro l
  induction l with
  | nil=>intro st k hs hv; exact ⟨st,hs,hv⟩
  | cons off l ih =>
    intro st k hs hv
    unfold shareOffs at hv
    split at hv
    · split at hv
      · split at hv
        · obtain ⟨st1, h1, h2⟩ := shareCell_sound hX hs hv
          exact ih st1 k h1 h2
        · exact ih st k hs hv
      · exact ih st k hs hv
    · exact ih st k hs hv
theorem shareSlot_sound (hX:CtxOk P X) {s:Nat} {k:St U El→Option (Fin U El)} (hs:StRel X B S0 w0 st a w) (hv:shareSlot st s k=some r):∃ st',StRel X B S0 w0 st' a w∧k st'=some r:=by
  unfold shareSlot at hv
  split at hv
  · split at hv
    · exact shareRow_sound hX hs hv
    · exact ⟨st,hs,hv⟩
  · exact shareOffs_sound hX _ st k hs hv
  · exact ⟨st,hs,hv⟩
theorem shareParts_sound (hX:CtxOk P X):∀ (l:List (Nat×Operand)) (st:St U El) (k:St U El→Option (Fin U El)),StRel X B S0 w0 st a w→shareParts st l k=some r→∃ st',StRel X B S0 w0 st' a w∧k st'=some r:=by
  intro l
  induction l with
  | nil=>intro st k hs hv; exact ⟨st,hs,hv⟩
  | cons p l ih =>
    intro st k hs hv
    obtain ⟨i,o⟩:=p
    cases o with
    | tmp s =>
      obtain ⟨st1,h1,h2⟩:=shareSlot_sound hX hs hv
      exact ih st1 k h1 h2
    | const v=>exact ih st k hs hv
    | global g=>exact ih st k hs hv
    | func f=>exact ih st k hs hv
theorem preShare_sound {o:Oper} {k:St U El→Option (Fin U El)} (hX:CtxOk P X) (hs:StRel X B S0 w0 st a w) (hv:preShare o st k=some r):∃ st',StRel X B S0 w0 st' a w∧k st'=some r:=by
  unfold preShare at hv
  split at hv
  · split at hv
    · exact shareSlot_sound hX hs hv
    · exact ⟨st,hs,hv⟩
  · exact shareParts_sound hX _ st k hs hv
  · exact shareSlot_sound hX hs hv
  · exact shareSlot_sound hX hs hv
  · exact ⟨st,hs,hv⟩
end
end Go.Proofs.Ytkeplmpcijigaaa
