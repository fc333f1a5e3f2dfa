/- The operations of a region, on: calls; all of them in one. -/
import Derived.Test.YthdimnlkcgchoaaGreatLGA
namespace Go.Proofs.YthdimnlkcgchoaaGreat
set_option linter.unusedVariables false
set_option linter.unusedSectionVars false
set_option linter.unusedSimpArgs false
open Go.RowKit
section
variable {U:Type} {El:U→Type} {P:Program} {X:Ctx U El} {S Sa S1 S':Nat→Prop} {ρ ρ0 ρ1 ρ':Rho} {w w':World} [DecidableEq U]
variable {o:Oper} {a:Act} {t:bz U El} {h H:aK U El} {B:Bd} {d:Nat} {r:Fin U El}
theorem nW {c:AV U El} (h:c.cell=true):c.plain=true:=by
  cases c<;>first | rfl | (simp [AV.cell] at h; done)
theorem Rel.to {c:AV U El} {v:Value} (hX:CtxOk P X) (hr:Rel X.E S ρ w c v) (hS:∀ b,S b→Sa b) (hc:c.cell=true):Rel X.E Sa ρ0 w c v :=
  (hr.mono (ρ':=ρ) hS (fun _ _=>rfl) (fun _ _ h=>h)).cellρ hX.u hc
def iQ (H:aK U El) (ρ:Rho) (Sa:Nat→Prop):Prop:=∀ id b l,al H id=some b→ρ id=some l→l.n≠0→Sa l.b
theorem jI (hX : CtxOk P X) (hH : HRel X.E S ρ w B H) (hs : ∀ id b, al h id = some b → al H id = some b) (hS : ∀ b, S b → Sa b) {td : Option (TD U)} {c c' : AV U El} {v : Value} (hr : Rel X.E S ρ w c v) (hc : lG X h td c = some c') (ho : c.plain = true ∨ iQ H ρ Sa) : Rel X.E Sa ρ0 w c' v := by
  unfold lG at hc
  split at hc
  · rename_i id
    split at hc
    · rename_i u xs hg
      cases hc
      have hown:=ho.resolve_left (by simp [AV.plain,AV.cell])
      obtain ⟨l,hl,h1,h2,h3,h4⟩:=hH.get _ _ (hs _ _ hg)
      have hp:=hX.u.pos u
      cases hr with
      | fulN _ l' hl' e1 e2=>rw [hl] at hl'; cases hl'; have:xs=[]:=List.eq_nil_of_length_eq_zero (by omega); subst this; exact .lstE u _ _
      | ful _ cap l' hl' e1 e2 =>
        rw [hl] at hl'; cases hl'
        by_cases hn:l.n=0
        · have : xs.length = 0 := by
            rcases Nat.eq_zero_or_pos xs.length with e | e
            · exact e
            · have:=Nat.mul_pos e hp; omega
          have:xs=[]:=List.eq_nil_of_length_eq_zero this
          subst this
          rw [h2]
          exact .lstE u _ _
        · obtain ⟨_, _, cc, hh, h5, h6⟩ := h4 hn
          rw [h2] at e2 ⊢
          refine .lst u xs l.b 0 cap (fun i j=>(cc[i * X.E.sz u+j]?).getD undef) (hown _ _ _ (hs _ _ hg) hl hn) e2 (fun i x j c hi hj => ?_) (fun i x j c hi hj => ?_)
          · obtain ⟨vv, hv, _⟩ := h6 i x j c hi hj
            rw [Nat.zero_add,cell_of_row w l.b _ cc _ (0,0) hh,hv]; rfl
          · obtain ⟨vv, hv, hrv⟩ := h6 i x j c hi hj
            rw [hv]
            exact hrv.to hX hS (hX.u.cell u x c (List.mem_of_getElem? hj))
    · cases hc
  · rename_i id lo len
    split at hc
    · rename_i u xs hg
      cases hc
      have hown:=ho.resolve_left (by simp [AV.plain,AV.cell])
      obtain ⟨l,hl,h1,h2,h3,h4⟩:=hH.get _ _ (hs _ _ hg)
      have hp:=hX.u.pos u
      cases hr with
      | ownE _ _ ao cap=>simp only [List.take_zero]; exact .lstE u _ _
      | own _ _ _ cap l' hl' e1 e2 e3 =>
        rw [hl] at hl'; cases hl'
        by_cases hl0:len=0
        · subst hl0; simp only [List.take_zero]; exact .lstE u _ _
        · have hn : l.n ≠ 0 := by
            have:0 < (lo+cap) * l.s:=Nat.mul_pos (by omega) (by omega)
            omega
          obtain ⟨_,_,cc,hh,h5,h6⟩:=h4 hn
          have hlen:((xs.drop lo).take len).length=len:=by simp; omega
          have al:∀ (i:Nat) x,((xs.drop lo).take len)[i]? = some x→xs[lo+i]? = some x:=fun i x hi=>by
            rw [List.getElem?_take] at hi
            split at hi
            · rw [List.getElem?_drop] at hi; exact hi
            · cases hi
          have:=Rel.lst (E:=X.E) (S:=Sa) (ρ:=ρ0) (w:=w) u ((xs.drop lo).take len) l.b (lo * l.s) cap (fun i j=>(cc[(lo+i) * X.E.sz u+j]?).getD undef) (hown _ _ _ (hs _ _ hg) hl hn) (by rw [hlen]; exact e2)
            (fun i x j c hi hj=>by
              obtain ⟨vv,hv,_⟩:=h6 (lo+i) x j c (al i x hi) hj
              rw [h1,← Nat.add_mul,cell_of_row w l.b _ cc _ (0,0) hh,hv]; rfl)
            (fun i x j c hi hj=>by
              obtain ⟨vv,hv,hrv⟩:=h6 (lo+i) x j c (al i x hi) hj
              rw [hv]
              exact hrv.to hX hS (hX.u.cell u x c (List.mem_of_getElem? hj)))
          rw [hlen] at this
          exact this
    · cases hc
  · split at hc
    · cases hc; cases hr; exact .lstE _ _ _
    · cases hc; cases hr; exact .nils
  · cases hc; cases hr; exact .bool _
  · cases hc; cases hr; exact .int _ _
  · cases hc; cases hr; exact .str _
  · cases hc; cases hr; exact .nilp
  · cases hc; cases hr; exact .nili
  · cases hc; cases hr; exact .nilf
  · cases hc; cases hr; exact .nilm
  · cases hc; cases hr; exact .err _ _
  · cases hc; exact hr.to hX hS rfl
  · cases hc
    cases hr with
    | pel _ _ _ _ b o cap hl hi=>exact .pel _ _ _ _ b o cap (hl.to hX hS rfl) hi
  · cases hc; exact hr.to hX hS rfl
  · rename_i id
    split at hc
    · rename_i u v es hg
      cases hc
      have hown:=ho.resolve_left (by simp [AV.plain,AV.cell])
      obtain ⟨l,hl,h1,h2,h3,ents,clock,h4,h5,h6⟩:=hH.get _ _ (hs _ _ hg)
      cases hr with
      | mp _ l' hl' =>
        rw [hl] at hl'; cases hl'
        exact .fmp u v es l.b ents clock (hown _ _ _ (hs _ _ hg) hl (by omega)) h4 h5 (fun i e p hi hp=>⟨(h6 i e p hi hp).1.fit.1,(h6 i e p hi hp).2.fit.1⟩)
          (fun i e p j c x hi hp hc hx=>((h6 i e p hi hp).1.fit.2 j c x hc hx).to hX hS (hX.u.cell u p.1 c (List.mem_of_getElem? hc)))
          (fun i e p j c x hi hp hc hx=>((h6 i e p hi hp).2.fit.2 j c x hc hx).to hX hS (hX.u.cell v p.2 c (List.mem_of_getElem? hc)))
    · cases hc
  · cases hc
theorem fJ (hX : CtxOk P X) (hH : HRel X.E S ρ w B H) (hs : ∀ id b, al h id = some b → al H id = some b) (hS : ∀ b, S b → Sa b) : ∀ (cs ds : List (AV U El)), fj X h cs = some ds → (cs.all AV.cell = true ∨ iQ H ρ Sa) →
    ds.length=cs.length∧∀ (i:Nat) c' v,ds[i]? = some c'→(∀ c,cs[i]? = some c→Rel X.E S ρ w c v)→Rel X.E Sa ρ0 w c' v:=by
  intro cs
  induction cs with
  | nil=>intro ds h _; simp [fj] at h; subst h; simp
  | cons c cs ih =>
    intro ds hd ho
    simp only [fj] at hd
    split at hd
    · rename_i d' hd'
      split at hd
      · rename_i ds' hds'
        cases hd
        obtain ⟨e1,e2⟩:=ih ds' hds' (ho.imp (fun e=>by simp at e ⊢; exact e.2) id)
        refine ⟨by simp [e1],fun i c' v hi hr => ?_⟩
        cases i with
        | zero =>
          simp at hi
          subst hi
          exact jI hX hH hs hS (hr c rfl) hd' (ho.imp (fun e=>by simp at e; exact nW e.1) id)
        | succ i=>exact e2 i c' v (by simpa using hi) (fun c hc=>hr c (by simpa using hc))
      · cases hd
    · cases hd
theorem jJ (hX : CtxOk P X) (hH : HRel X.E S ρ w B H) (hs : ∀ id b, al h id = some b → al H id = some b) (hS : ∀ b, S b → Sa b) {td : Option (TD U)} {c c' : AV U El} {v : Value} (hr : Rel X.E S ρ w c v) (hc : lH X h td c = some c') (ho : c.plain = true ∨ iQ H ρ Sa) : Rel X.E Sa ρ0 w c' v := by
  unfold lH at hc
  split at hc
  · rename_i cs
    split at hc
    · rename_i ds hds
      cases hc
      obtain ⟨e1,e2⟩:=fJ (ρ0:=ρ0) hX hH hs hS cs ds hds (ho.imp (fun e=>e) id)
      cases hr with
      | agg _ vs hl hrel=>exact .agg _ _ (by rw [hl,e1]) fun i c' v hi hv=>e2 i c' v hi (fun c hc=>hrel i c v hc hv)
    · cases hc
  · rename_i id off
    split at hc
    · rename_i cs hg
      split at hc
      · rename_i ds hds
        cases hc
        have hown:=ho.resolve_left (by simp [AV.plain,AV.cell])
        obtain ⟨e1,e2⟩:=fJ (ρ0:=ρ0) hX hH hs hS cs ds hds (.inr hown)
        obtain ⟨l,hl,_,h1,h2⟩:=hH.get _ _ (hs _ _ hg)
        cases hr with
        | ptr _ _ l' hl' =>
          rw [hl] at hl'; cases hl'
          by_cases hn:l.n=0
          · have : ds = [] := List.eq_nil_of_length_eq_zero (by omega)
            subst this
            have:=Rel.pcs (E:=X.E) (S:=Sa) (ρ:=ρ0) (w:=w) [] off l.b 0 (fun _=>undef) (fun h=>absurd rfl h) (by simp) (by simp)
            rwa [Nat.zero_add] at this
          · obtain ⟨_, _, cc, e, hh, h3, h4⟩ := h2 hn
            have:=Rel.pcs (E:=X.E) (S:=Sa) (ρ:=ρ0) (w:=w) ds off l.b 0 (fun j=>(cc[j]?).getD undef) (fun _=>hown _ _ _ (hs _ _ hg) hl hn)
              (fun j c' hj=>by
                have hjc:j < cs.length:=by rw [← e1]; exact (List.getElem?_eq_some_iff.1 hj).1
                obtain ⟨vv,hv,_⟩:=h4 j _ (List.getElem?_eq_getElem hjc)
                rw [Nat.zero_add,cell_of_row w l.b _ cc _ (0,0) hh,hv]; rfl)
              (fun j c' hj=>by
                have hjc:j < cs.length:=by rw [← e1]; exact (List.getElem?_eq_some_iff.1 hj).1
                obtain ⟨vv,hv,hrv⟩:=h4 j _ (List.getElem?_eq_getElem hjc)
                rw [hv]
                exact e2 j c' _ hj (fun c hc=>by rw [List.getElem?_eq_getElem hjc] at hc; cases hc; exact hrv))
            rwa [Nat.zero_add] at this
      · cases hc
    · cases hc
  · rename_i cs off
    split at hc
    · rename_i ds hds
      cases hc
      have hown:=ho.resolve_left (by simp [AV.plain,AV.cell])
      obtain ⟨e1,e2⟩:=fJ (ρ0:=ρ0) hX hH hs hS cs ds hds (.inr hown)
      cases hr with
      | pcs _ _ b o val hS' hcell hrel =>
        refine .pcs ds off b o val (fun hn=>hS _ (hS' (by rintro rfl; exact hn (List.eq_nil_of_length_eq_zero (by simpa using e1))))) (fun j c' hj => ?_) (fun j c' hj=>e2 j c' _ hj (fun c hc=>hrel j c hc))
        have hjc:j < cs.length:=by rw [← e1]; exact (List.getElem?_eq_some_iff.1 hj).1
        exact hcell j _ (List.getElem?_eq_getElem hjc)
    · cases hc
  · exact jI hX hH hs hS hr hc ho
theorem iR (hX : CtxOk P X) (hH : HRel X.E S ρ w B H) (hs : ∀ id b, al h id = some b → al H id = some b) (hS : ∀ b, S b → Sa b) : ∀ (cs ds : List (AV U El)), fU X h cs = some ds → (cs.all AV.plain = true ∨ iQ H ρ Sa) →
    ds.length=cs.length∧∀ (i:Nat) c' v,ds[i]? = some c'→(∀ c,cs[i]? = some c→Rel X.E S ρ w c v)→Rel X.E Sa ρ0 w c' v:=by
  intro cs
  induction cs with
  | nil=>intro ds h _; simp [fU] at h; subst h; simp
  | cons c cs ih =>
    intro ds hd ho
    simp only [fU] at hd
    split at hd
    · rename_i d' hd'
      split at hd
      · rename_i ds' hds'
        cases hd
        obtain ⟨e1,e2⟩:=ih ds' hds' (ho.imp (fun e=>by simp at e ⊢; exact e.2) id)
        refine ⟨by simp [e1],fun i c' v hi hr => ?_⟩
        cases i with
        | zero =>
          simp at hi
          subst hi
          exact jJ hX hH hs hS (hr c rfl) hd' (ho.imp (fun e=>by simp at e; exact e.1) id)
        | succ i=>exact e2 i c' v (by simpa using hi) (fun c hc=>hr c (by simpa using hc))
      · cases hd
    · cases hd
theorem pp (hX : CtxOk P X) (hH : HRel X.E S ρ w B H) (hs : ∀ id b, al h id = some b → al H id = some b) (hS : ∀ b, S b → Sa b) {td : Option (TD U)} {c c' : AV U El} {v : Value} (hr : Rel X.E S ρ w c v) (hc : qp X h td c = some c') (ho : c.plain = true ∨ iQ H ρ Sa) : Rel X.E Sa ρ0 w c' v := by
  unfold qp at hc
  split at hc
  · rename_i f as bs
    split at hc
    · rename_i as' has
      split at hc
      · rename_i bs' hbs
        cases hc
        obtain ⟨e1,e2⟩:=iR (ρ0:=ρ0) hX hH hs hS as as' has (ho.imp (fun e=>by simp [AV.plain] at e; simp [e.1]) id)
        obtain ⟨f1,f2⟩:=iR (ρ0:=ρ0) hX hH hs hS bs bs' hbs (ho.imp (fun e=>by simp [AV.plain] at e; simp [e.2]) id)
        cases hr with
        | fn _ _ _ vf vc hlf hlc hf hc=>exact .fn _ _ _ _ _ (by rw [hlf,e1]) (by rw [hlc,f1]) (fun i c' v hi hv=>e2 i c' v hi (fun c hc=>hf i c v hc hv)) (fun i c' v hi hv=>f2 i c' v hi (fun c hc'=>hc i c v hc' hv))
      · cases hc
    · cases hc
  · exact jJ hX hH hs hS hr hc ho
theorem nX (hX : CtxOk P X) (hH : HRel X.E S ρ w B H) (hs : ∀ id b, al h id = some b → al H id = some b) (hS : ∀ b, S b → Sa b) : ∀ (cs ds : List (AV U El)) (ts : List TypeId), ic X h cs ts = some ds → (cs.all AV.plain = true ∨ iQ H ρ Sa) →
    ds.length=cs.length∧∀ (i:Nat) c' v,ds[i]? = some c'→(∀ c,cs[i]? = some c→Rel X.E S ρ w c v)→Rel X.E Sa ρ0 w c' v:=by
  intro cs
  induction cs with
  | nil=>intro ds ts h _; simp [ic] at h; subst h; simp
  | cons c cs ih =>
    intro ds ts hd ho
    simp only [ic] at hd
    split at hd
    · rename_i d' hd'
      split at hd
      · rename_i ds' hds'
        cases hd
        obtain ⟨e1,e2⟩:=ih ds' _ hds' (ho.imp (fun e=>by simp at e ⊢; exact e.2) id)
        refine ⟨by simp [e1],fun i c' v hi hr => ?_⟩
        cases i with
        | zero =>
          simp at hi
          subst hi
          exact pp hX hH hs hS (hr c rfl) hd' (ho.imp (fun e=>by simp at e; exact e.1) id)
        | succ i=>exact e2 i c' v (by simpa using hi) (fun c hc=>hr c (by simpa using hc))
      · cases hd
    · cases hd
theorem mE {ok : AV U El → Bool} (hSS : (∃ c, ok c = true ∧ c.cellF = false) → ∀ b, S1 b → S' b) (hok : ∀ c v, ok c = true → Rel X.E S1 ρ1 w' c v → Rel X.E S' ρ' w' c v) (hcell : ∀ c, ok c = true → c.cell = true) (hρ : ∀ id l, id < 4 → ρ1 id = some l → ρ' (d * 1000 + id) = some l) {c : AV U El} {v : Value} (hc : c.resG1 ok = true) (hr : Rel X.E S1 ρ1 w' c v) : Rel X.E S' ρ' w' (rename d c) v := by
  unfold AV.resG1 at hc
  split at hc
  · rename_i id
    have hid:id < 4:=Nat.le_of_ble_eq_true hc
    cases hr with
    | ful _ cap l hl h1 h2=>exact .ful _ cap l (hρ _ _ hid hl) h1 h2
    | fulN _ l hl h1 h2=>exact .fulN _ l (hρ _ _ hid hl) h1 h2
  · rename_i cs
    cases hr with
    | agg _ vs hl hrel=>exact .agg _ _ hl fun i c v hi hv=>hok c v (by simp at hc; exact hc c (List.mem_of_getElem? hi)) (hrel i c v hi hv)
  · rename_i f cs off
    simp only [Bool.and_eq_true,Bool.not_eq_true'] at hc
    have hSS':∀ b,S1 b→S' b:=hSS (by
      obtain ⟨c,hm,hcf⟩:=List.all_eq_false.1 hc.2
      exact ⟨c,List.all_eq_true.1 hc.1 c hm,by simpa using hcf⟩)
    have he:rename d (.fn f [] [.pcs cs off]:AV U El) = .fn f [] [.pcs cs off]:=rfl
    rw [he]
    cases hr with
    | fn _ _ _ vf vc hlf hlc hf hc' =>
      refine .fn f [] _ vf vc hlf hlc (fun i c v h=>by cases h) fun i c v hi hv => ?_
      have h2:=hc' i c v hi hv
      match i,hi with
      | 0, hi =>
        cases hi
        cases h2 with
        | pcs _ _ b o val hb hcl h=>exact .pcs cs off b o val (fun hn=>hSS' b (hb hn)) hcl fun j c hj=>hok c _ (List.all_eq_true.1 hc.1 c (List.mem_of_getElem? hj)) (h j c hj)
  · rename_i h1 h2 h3
    have he:rename d c=c:=by
      unfold rename
      split
      · exact absurd rfl (h1 _)
      · rfl
    rw [he]
    exact hok c v hc hr
theorem rJ {ok:AV U El→Bool} (hSS:(∃ c,ok c=true∧c.cellF=false)→∀ b,S1 b→S' b) (hok:∀ c v,ok c=true→Rel X.E S1 ρ1 w' c v→Rel X.E S' ρ' w' c v) (hcell:∀ c,ok c=true→c.cell=true) (hρ:∀ id l,id < 4→ρ1 id=some l→ρ' (d * 1000+id)=some l) {c:AV U El} {v:Value} (hc:c.resG ok=true) (hr:Rel X.E S1 ρ1 w' c v):Rel X.E S' ρ' w' (fW d c) v:=by
  unfold AV.resG at hc
  split at hc
  · rename_i cs
    cases hr with
    | tup _ vs hl hrel =>
      refine .tup _ _ (by simpa using hl) fun i c v hi hv => ?_
      simp only [List.getElem?_map,Option.map_eq_some_iff] at hi
      obtain ⟨c0,hc0,rfl⟩:=hi
      exact mE hSS hok hcell hρ (by simp at hc; exact hc c0 (List.mem_of_getElem? hc0)) (hrel i c0 v hc0 hv)
  · rename_i h1
    have he:fW d c=rename d c:=by
      unfold fW
      split
      · exact absurd rfl (h1 _)
      · rfl
    rw [he]
    exact mE hSS hok hcell hρ hc hr
theorem eN {ex:aK U El} {j:Nat} {b:Blk U El} (h:al (eK d ex) j=some b):∃ id,j=d * 1000+id∧al ex id=some b:=by
  induction ex with
  | nil=>simp [eK,al] at h
  | cons p ex ih =>
    obtain ⟨i,c⟩:=p
    simp only [eK,al] at h
    by_cases e:d * 1000+i=j
    · subst e
      refine ⟨i,rfl,?_⟩
      simp only [al]
      rw [Nat.beq_refl] at h ⊢
      exact h
    · rw [aw e] at h
      obtain ⟨id,h1,h2⟩:=ih h
      refine ⟨id,h1,?_⟩
      have:i≠id:=by omega
      simp only [al,aw this]
      exact h2
theorem rK {ex:aK U El} (h:gW ex=true) {id:Nat} {b:Blk U El} (hg:al ex id=some b):∃ u xs,b = .rows u xs:=by
  induction ex with
  | nil=>cases hg
  | cons p ex ih =>
    obtain ⟨i,c⟩:=p
    cases c with
    | box t cs=>simp [gW] at h
    | map u v es=>simp [gW] at h
    | bld T j=>simp [gW] at h
    | rows u xs =>
      simp only [gW] at h
      simp only [al] at hg
      cases e:Nat.beq i id with
      | true=>rw [e] at hg; cases hg; exact ⟨_,_,rfl⟩
      | false=>rw [e] at hg; exact ih h hg
theorem rL {ex:aK U El} (h:iL X.E ex=true) {id:Nat} {u:U} {xs:List (El u)} (hg:al ex id=some (.rows u xs)):X.E.fl u=true:=by
  induction ex with
  | nil=>cases hg
  | cons p ex ih =>
    obtain ⟨i,c⟩:=p
    cases c with
    | box t cs=>simp [iL] at h
    | map u v es=>simp [iL] at h
    | bld T j=>simp [iL] at h
    | rows u xs =>
      simp only [iL,Bool.and_eq_true] at h
      simp only [al] at hg
      cases e:Nat.beq i id with
      | true=>rw [e] at hg; cases hg; exact h.1
      | false=>rw [e] at hg; exact ih h.2 hg
theorem callIds_mem {j d:Nat}:j∈cq d↔∃ i,i < 4∧j=d * 1000+i:=by
  unfold cq
  constructor
  · intro h
    rcases List.mem_cons.1 h with e | h
    · exact ⟨0,by decide,e⟩
    rcases List.mem_cons.1 h with e | h
    · exact ⟨1,by decide,e⟩
    rcases List.mem_cons.1 h with e | h
    · exact ⟨2,by decide,e⟩
    rcases List.mem_cons.1 h with e | h
    · exact ⟨3,by decide,e⟩
    · cases h
  · rintro ⟨i, h, rfl⟩
    match i,h with
    | 0,_=>exact List.mem_cons_self
    | 1,_=>exact List.mem_cons_of_mem _ List.mem_cons_self
    | 2,_=>exact List.mem_cons_of_mem _ (List.mem_cons_of_mem _ List.mem_cons_self)
    | 3,_=>exact List.mem_cons_of_mem _ (List.mem_cons_of_mem _ (List.mem_cons_of_mem _ List.mem_cons_self))
theorem mF {Sx:Nat→Prop} {ok:AV U El→Bool} (hSS:(∃ c,ok c=true∧c.cellF=false)→∀ b,S1 b→S' b) {res:AV U El} {ex:aK U El} {v:Value} {f:Operand} {as:Array Operand} {ts:Array TypeId} (ho:o.op = .call ⟨.value f,as,ts⟩) (hX:CtxOk P X) (hokc:∀ c,ok c=true→c.cell=true) (hok:∀ c v ρ'',ok c=true→Rel X.E S1 ρ1 w' c v→Rel X.E S' ρ'' w' c v)
    (hst:Step Sx (fun _=>none) w S1 ρ1 w') (hlt:∀ b,S b→b < w.heap.size) (s1:∀ b,S b→S' b) (s2:∀ b,S' b→S b∨w.heap.size≤b) (hlt':∀ b,S' b→b < w'.heap.size) (hns:∀ b,w.heap.size≤b→¬ S1 b→¬ S' b)
    (hhr:HRel X.E S1 ρ1 w' (gH w) ex) (hid:∀ id b,al ex id=some b→id < 4) (hrows:gW ex=true) (henc:∀ id u xs,al ex id=some (.rows u xs)→∀ x c,c∈X.E.enc u x→ok c=true) (hres:res.resG ok=true) (hrr:Rel X.E S1 ρ1 w' res v) (hd:∀ j∈cq d,ρ j=none)
    {next:Act→World→Prop} (hn:∀ v w' S' ρ',Step S ρ w S' ρ' w'→Rel X.E S' ρ' w' (fW d res) v→HRel X.E S' ρ' w' (gH w) (eK d ex)→(∀ id b,al (eK d ex) id=some b→id∈aZ o d)→(∀ id,id ∉ aZ o d→ρ' id=ρ id)→next (a.put o.dst v) w'):next (a.put o.dst v) w':=by
  have hni:aZ o d=cq d:=by simp [aZ,ho]
  have hρ1:∀ id l,id < 4→ρ1 id=some l→(fun j=>if j∈cq d then ρ1 (j - d * 1000) else ρ j) (d * 1000+id)=some l:=fun id l h e=>by
    have:d * 1000+id∈cq d:=callIds_mem.2 ⟨id,h,rfl⟩
    simp only [if_pos this]
    rw [show d * 1000+id - d * 1000=id by omega]
    exact e
  refine hn v w' S' (fun j=>if j∈cq d then ρ1 (j - d * 1000) else ρ j) ⟨hst.fr,s1,s2,fun id l e => ?_,hlt⟩ (rJ hSS (fun c v h1 h2=>hok c v _ h1 h2) hokc hρ1 hres hrr) ⟨fun j b hg => ?_,fun i j b b' l l' hi hj hne hli hlj hn hn' => ?_,hlt'⟩ (fun id b hg => ?_) (fun id hi => ?_)
  · have : id ∉ cq d := fun h => by rw [hd id h] at e; cases e
    simp only [if_neg this]
    exact e
  · obtain ⟨id, rfl, hge⟩ := eN hg
    obtain ⟨u,xs,rfl⟩:=rK hrows hge
    obtain ⟨l,hl,h1,h2,h3,h4⟩:=hhr.get _ _ hge
    refine ⟨l,hρ1 id l (hid _ _ hge) hl,h1,h2,h3,fun hn => ?_⟩
    obtain ⟨h5,h6,c,hh,h7,h8⟩:=h4 hn
    refine ⟨h5,hns _ h5 h6,c,hh,h7,fun i x j a hi hj => ?_⟩
    obtain ⟨vv,hv,hr⟩:=h8 i x j a hi hj
    exact ⟨vv,hv,hok a vv _ (henc id u xs hge x a (List.mem_of_getElem? hj)) hr⟩
  · obtain ⟨id, rfl, hge⟩ := eN hi
    obtain ⟨id',rfl,hge'⟩:=eN hj
    have e1:=hid _ _ hge
    have e2:=hid _ _ hge'
    obtain ⟨l1,hl1,_⟩:=hhr.get _ _ hge
    obtain ⟨l2,hl2,_⟩:=hhr.get _ _ hge'
    have k1:some l1=some l:=(hρ1 id l1 e1 hl1).symm.trans hli
    have k2:some l2=some l':=(hρ1 id' l2 e2 hl2).symm.trans hlj
    cases k1; cases k2
    exact hhr.inj id id' b b' _ _ hge hge' (fun e=>hne (by rw [e])) hl1 hl2 hn hn'
  · obtain ⟨i, rfl, hge⟩ := eN hg
    rw [hni]
    exact callIds_mem.2 ⟨i,hid _ _ hge,rfl⟩
  · rw [hni] at hi
    simp only [if_neg hi]
theorem jK {c:AV U El} (h:c.cellF=true):c.cell=true:=by
  cases c<;>first | rfl | (simp [AV.cellF,AV.cell] at h; done)
theorem nY {c:AV U El} (h:c.cellF=true):c.flat=true:=by
  cases c<;>first | rfl | (simp [AV.cellF,AV.cell] at h; done)
theorem qD {c:AV U El} (h:c.cell=true) (hf:c.flat=true):c.cellF=true:=by
  cases c<;>first | rfl | (simp [AV.cell] at h; done) | (simp [AV.flat] at hf; done)
theorem rM {f : Operand} {as : Array Operand} {ts : Array TypeId} {k : Out U El → Option (Fin U El)} (hX : CtxOk P X) (ho : o.op = .call ⟨.value f, as, ts⟩)
    (hv:ba X o t h d k=some r) (hT:TRel X.E S ρ w o t a) (hH:HRel X.E S ρ w B H) (hs:∀ id b,al h id=some b→al H id=some b) (hd:∀ j∈cq d,ρ j=none) (hG:X.E.G w):∃ out,k out=some r∧bC P X.E S ρ w o a d out:=by
  have hf:=hT.get (x:=f) (by simp [ho,Op.operands,Call.operands])
  have hargs:∀ x∈as,Rel X.E S ρ w (oget t x) (a.eval x):=fun x hx=>hT.get (by simp [ho,Op.operands,Call.operands]; exact .inr hx)
  simp only [ba,ho] at hv
  split at hv
  · rename_i g first caps hfe
    rw [hfe] at hf
    generalize hq:a.eval f=q at hf
    cases hf with
    | fn _ _ _ vf vc hlf hlc hrf hrc =>
      split at hv
      · rename_i vs hvs
        obtain ⟨res,ex,⟨hcall,hid,hspec⟩,hv1⟩:=hX.spec _ _ _ _ hv
        obtain ⟨hck,hv2⟩:=af hv1
        refine ⟨_,hv2,?_⟩
        simp only [Bool.and_eq_true,Bool.or_eq_true] at hck
        obtain ⟨⟨hres,hrows⟩,hmode⟩:=hck
        have hrun:(execOp a.eval o).run P w = .ok (.enter g (vf++as.map a.eval++vc)) w:=by
          simp [execOp,ho,resolve,Deferred.ofValue,hq,invoke,hcall]
        have hraw:(vf++as.map a.eval++vc).size=(first++as.toList.map (oget t)++caps).length∧∀ (i:Nat) c v,(first++as.toList.map (oget t)++caps)[i]? = some c→(vf++as.map a.eval++vc)[i]? = some v→Rel X.E S ρ w c v:=by
          refine ⟨by simp [hlf,hlc],fun i c v hc hv => ?_⟩
          have hv':(vf.toList++as.toList.map a.eval++vc.toList)[i]? = some v:=by
            rw [← Array.getElem?_toList] at hv; simpa using hv
          by_cases h1:i < first.length+as.size
          · rw [List.getElem?_append_left (by simp; omega)] at hc
            rw [List.getElem?_append_left (by simp; omega)] at hv'
            by_cases h2:i < first.length
            · rw [List.getElem?_append_left h2] at hc
              rw [List.getElem?_append_left (by simp; omega)] at hv'
              exact hrf i c v hc (by simpa using hv')
            · rw [List.getElem?_append_right (by omega)] at hc
              rw [List.getElem?_append_right (by simp; omega)] at hv'
              simp only [List.getElem?_map,Option.map_eq_some_iff,Array.length_toList,hlf] at hc hv'
              obtain ⟨x,hx,rfl⟩:=hc
              obtain ⟨y,hy,rfl⟩:=hv'
              rw [hx] at hy; cases hy
              exact hargs x (by simpa using List.mem_of_getElem? hx)
          · rw [List.getElem?_append_right (by simp; omega)] at hc
            rw [List.getElem?_append_right (by simp; omega)] at hv'
            simp only [List.length_append,List.length_map,Array.length_toList,hlf] at hc hv'
            exact hrc _ c v hc (by simpa using hv')
        have base:∀ (Sa:Nat→Prop),(∀ b,S b→Sa b)→((first++as.toList.map (oget t)++caps).all AV.plain=true∨iQ H ρ Sa)→kC X.E Sa (fun _=>none) w vs (vf++as.map a.eval++vc):=by
          intro Sa hSa hown
          obtain ⟨e1,e2⟩:=nX (ρ0:=fun _=>none) hX hH hs hSa _ _ _ hvs hown
          refine ⟨by rw [hraw.1,e1],fun i c' v hc hv=>e2 i c' v hc (fun c hc'=>hraw.2 i c v hc' hv)⟩
        intro next Q hn
        unfold Oper.wp
        rw [hrun]
        show Calls P g _ w _
        rcases hmode with ⟨hm1,hm2⟩ | hm
        · have hown : iQ H ρ (fun b => b < w.heap.size) := fun id b l h1 h2 h3 => by
            obtain ⟨l',e1,e2⟩:=hH.get _ _ h1
            rw [h2] at e1; cases e1
            exact (e2.lt h3).1
          refine (hspec (fun b=>b < w.heap.size) w _ (fun _ h=>h) hG (base _ hH.lt (.inr hown))).mono ?_
          rintro e w' ⟨v,S1,ρ1,rfl,hst,hhr,hrr⟩
          exact mF (S':=S) (ok:=AV.cellF) (fun ⟨c,h1,h2⟩=>by rw [h1] at h2; cases h2) ho hX (fun c=>jK) (fun c v ρ'' h1 h2=>(h2.flat (nY h1)).cellρ hX.u (jK h1)) hst hH.lt (fun _ h=>h) (fun _ h => .inl h) (fun b hb=>Nat.lt_of_lt_of_le (hH.lt b hb) hst.below.size) (fun b hb _ hs=>by have:=hH.lt b hs; omega) hhr hid hrows
            (fun id u xs hg x c hc=>qD (hX.u.cell u x c hc) (hX.u.flat u (rL hm2 hg) x c hc)) hm1 hrr hd hn
        · refine (hspec S w _ hH.lt hG (base S (fun _ h => h) (.inl hm))).mono ?_
          rintro e w' ⟨v,S1,ρ1,rfl,hst,hhr,hrr⟩
          exact mF (S':=S1) (ok:=AV.cell) (fun _ _ h=>h) ho hX (fun c h=>h) (fun c v ρ'' h1 h2=>h2.cellρ hX.u h1) hst hH.lt hst.s1 hst.s2 hhr.lt (fun b hb h=>h) hhr hid hrows
            (fun id u xs hg x c hc=>hX.u.cell u x c hc) hres hrr hd hn
      · cases hv
  · cases hv
theorem fp {k : Out U El → Option (Fin U El)} (hX : CtxOk P X) (hv : ba X o t h d k = some r) (hT : TRel X.E S ρ w o t a) (hH : HRel X.E S ρ w B H) (hs : ∀ id b, al h id = some b → al H id = some b)
    (hd:∀ j∈aZ o d,ρ j=none) (hG:X.E.G w):∃ out,k out=some r∧bC P X.E S ρ w o a d out:=by
  have hlt:=hH.lt
  have hd1:aZ o d=[d]→ρ d=none:=fun e=>hd d (by rw [e]; simp)
  cases ho:o.op with
  | move x=>simp only [ba,ho] at hv; exact ⟨_,hv,oT (.inl ho) hT hlt⟩
  | assign x=>simp only [ba,ho] at hv; exact ⟨_,hv,oT (.inr ho) hT hlt⟩
  | pick c x y =>
    simp only [ba,ho] at hv
    split at hv
    · rename_i hc; exact ⟨_,hv,oU (b:=true) ho hc hT hlt⟩
    · rename_i hc; exact ⟨_,hv,oU (b:=false) ho hc hT hlt⟩
    · cases hv
  | alloc e =>
    simp only [ba,ho] at hv
    have hd1':ρ d=none:=hd d (by simp [aZ,ho])
    split at hv
    · rename_i u htd
      obtain ⟨h0,hv⟩:=af hv
      exact ⟨_,hv,pn hX ho htd (Nat.le_of_ble_eq_true h0) hlt hd1' (hd _ (by simp [aZ,ho]))⟩
    · split at hv
      · rename_i z hz
        split at hv
        · rename_i cs hcs; exact ⟨_,hv,qv hX ho hz hcs hlt hd1'⟩
        · cases hv
      · cases hv
  | box e x =>
    simp only [ba,ho] at hv
    split at hv
    · rename_i cs hcs; exact ⟨_,hv,si ho hcs hT hlt (hd1 (by simp [aZ,ho]))⟩
    · cases hv
  | build ty ps=>exact qB hX ho hv hT hlt
  | buildSlice ty n ps=>exact kE hX ho hv hT hlt (hd1 (by simp [aZ,ho]))
  | load ty p =>
    simp only [ba,ho] at hv
    split at hv
    · rename_i td htd
      split at hv
      · rename_i sz ag hag; exact rC hX ho htd hag hv hT hH hs
      · cases hv
    · cases hv
  | nilCheck x =>
    simp only [ba,ho] at hv
    split at hv
    · rename_i e; exact ⟨_,hv,by rw [← e]; exact eM ho (.inl ⟨_,_,e⟩) hT hlt⟩
    · rename_i e; exact ⟨_,hv,by rw [← e]; exact eM ho (.inr (.inl ⟨_,_,_,e⟩)) hT hlt⟩
    · rename_i e; exact ⟨_,hv,by rw [← e]; exact eM ho (.inr (.inr (.inl ⟨_,_,_,_,e⟩))) hT hlt⟩
    · rename_i e; exact ⟨_,hv,by rw [← e]; exact eM ho (.inr (.inr (.inr ⟨_,_,e⟩))) hT hlt⟩
    · cases hv
  | binOp op ty x y yt =>
    simp only [ba,ho] at hv
    obtain ⟨hb,hv1⟩:=af hv
    exact qx hX ho hb hv1 hT hlt
  | unOp u ty x =>
    simp only [ba,ho] at hv
    split at hv
    · rename_i b hx; exact ⟨_,hv,oV ho (.inl ⟨b,rfl,hx,rfl⟩) hT hlt⟩
    · rename_i kd n hx; exact ⟨_,hv,oV ho (.inr ⟨kd,n,rfl,hx,rfl⟩) hT hlt⟩
    · cases hv
  | makeMap ty rs =>
    cases rs with
    | some y=>simp only [ba,ho] at hv; cases hv
    | none =>
      simp only [ba,ho] at hv
      split at hv
      · exact ⟨_,hv,nT ho hlt (hd1 (by simp [aZ,ho]))⟩
      · cases hv
  | lookup ty m ix ok =>
    simp only [ba,ho] at hv
    split at hv
    · rename_i u v id htd hm
      split at hv
      · rename_i u' v' es hg
        obtain ⟨hck,hv1⟩:=af hv
        simp only [Bool.and_eq_true,decide_eq_true_eq] at hck
        obtain ⟨rfl,rfl,h3,h4⟩:=hck
        split at hv1
        · rename_i x hx; exact ⟨_,hv1,po hX ho htd hm hg h3 h4 hx hT hH hs⟩
        · cases hv1
      · cases hv
    · rename_i u v u' v' es htd hm
      obtain ⟨hck,hv1⟩:=af hv
      simp only [Bool.and_eq_true,decide_eq_true_eq] at hck
      obtain ⟨rfl,rfl,h3,h4⟩:=hck
      split at hv1
      · rename_i x hx; exact ⟨_,hv1,nV hX ho htd hm h3 h4 hx hT hH⟩
      · cases hv1
    · cases hv
  | convert s ty x=>exact nS hX ho hv hT hlt
  | makeFunc fn as bs =>
    simp only [ba,ho] at hv
    cases fn with
    | func f=>exact ⟨_,hv,mq ho hT hlt⟩
    | _=>cases hv
  | makeSlice ty n c=>exact lR hX ho hv hT hlt (hd1 (by simp [aZ,ho]))
  | slice ty x lo hi mx =>
    cases mx with
    | none=>exact qy hX ho hv hT hH hs
    | some m=>simp only [ba,ho] at hv; cases hv
  | fieldAddr s p f =>
    simp only [ba,ho] at hv
    split at hv
    · rename_i fs sz htd
      split at hv
      · rename_i off fsz ag hf; exact lP hX ho htd hf hv hT hlt
      · cases hv
    · cases hv
  | field s x f =>
    simp only [ba,ho] at hv
    split at hv
    · rename_i fs sz htd
      split at hv
      · rename_i off fsz ag hf
        split at hv
        · rename_i cs hx; exact qw hX ho htd hf hx hv hT hlt
        · cases hv
      · cases hv
    · cases hv
  | indexAddr ty x ix =>
    simp only [ba,ho] at hv
    split at hv
    · rename_i u kd i htd hix; exact kD hX ho htd hix hv hT hH hs
    · rename_i n es ea sz kd i htd hix; exact mu hX ho htd hix hv hT hlt
    · cases hv
  | index ty x ix =>
    simp only [ba,ho] at hv
    split at hv
    · rename_i kd i htd hix
      split at hv
      · rename_i s hx; obtain ⟨hb,hv1⟩:=af hv; exact ⟨_,hv1,mw hX ho htd hix hx hb hT hlt⟩
      · cases hv
    · rename_i n es ea sz kd i htd hix
      split at hv
      · rename_i cs hx; obtain ⟨hb,hv1⟩:=af hv; exact my hX ho htd hix hx hb hv1 hT hlt
      · cases hv
    · cases hv
  | extract x i =>
    simp only [ba,ho] at hv
    split at hv
    · rename_i cs hx
      split at hv
      · rename_i v hi; exact ⟨_,hv,nP ho hx hi hT hlt⟩
      · cases hv
    · cases hv
  | call c =>
    obtain ⟨callee,as,ts⟩:=c
    cases callee with
    | value f=>exact rM hX ho hv hT hH hs (fun j hj=>hd j (by simpa [aZ,ho] using hj)) hG
    | invoke x m=>simp only [ba,ho] at hv; cases hv
    | builtin b =>
      cases b with
      | len =>
        simp only [ba,ho] at hv
        split at hv
        · rename_i x ty ts' has hts
          split at hv
          · rename_i n hn
            obtain ⟨hck,hv1⟩:=af hv
            have h0:ts[0]? = some ty:=by rw [← Array.getElem?_toList,hts]; rfl
            by_cases hmp:∃ id,oget t x = .mp id
            · obtain ⟨id, hx⟩ := hmp
              rw [hx] at hck hn
              simp only [lenOf] at hn
              split at hn
              · rename_i u v es hg
                cases hn
                cases htd:a8 X.tds ty with
                | none=>rw [htd] at hck; cases hck
                | some td=>rw [htd] at hck; cases td<;>first | exact ⟨_,hv1,rI hX ho has hx hg h0 htd hT hH hs⟩ | cases hck
              · cases hn
            · refine ⟨_, hv1, sj ho has hn (fun id e => hmp ⟨id, e⟩) ⟨ty, h0, ?_, ?_⟩ hT hH hs⟩
              · rintro ⟨s, hx⟩
                rw [hx] at hck
                cases htd:a8 X.tds ty with
                | none=>rw [htd] at hck; cases hck
                | some td=>rw [htd] at hck; cases td<;>first | exact hX.td _ _ htd | cases hck
              · intro hns
                cases htd:a8 X.tds ty with
                | none=>rw [htd] at hck; cases hck
                | some td =>
                  rw [htd] at hck
                  cases td<;>cases hx:oget t x<;>rw [hx] at hck<;>first | exact ⟨_,hX.td _ _ htd⟩ | exact absurd (show false=true from hck) (by decide) | exact (hns ⟨_,hx⟩).elim | exact (hmp ⟨_,hx⟩).elim
          · cases hv
        · cases hv
      | max =>
        simp only [ba,ho] at hv
        split at hv
        · rename_i x y has
          split at hv
          · rename_i ka m kb n hx hy; exact ⟨_,hv,by have:=kR (P:=P) (d:=d) (isMax:=true) (by simpa using ho) has hx hy hT hlt; simpa using this⟩
          · cases hv
        · cases hv
      | min =>
        simp only [ba,ho] at hv
        split at hv
        · rename_i x y has
          split at hv
          · rename_i ka m kb n hx hy; exact ⟨_,hv,by have:=kR (P:=P) (d:=d) (isMax:=false) (by simpa using ho) has hx hy hT hlt; simpa using this⟩
          · cases hv
        · cases hv
      | _=>simp only [ba,ho] at hv; cases hv
  | _=>simp only [ba,ho] at hv; cases hv
end
end Go.Proofs.YthdimnlkcgchoaaGreat

namespace Go.Proofs.YthdimnlkcgchoaaGreat
set_option linter.unusedVariables false
set_option linter.unusedSectionVars false
set_option linter.unusedSimpArgs false
open Go.RowKit
section
variable {U:Type} {El:U→Type} {P:Program} {X:Ctx U El} {S S0:Nat→Prop} {ρ:Rho} {w w0:World} [DecidableEq U]
variable {o:Oper} {a:Act} {st:St U El} {B:Bd} {d:Nat} {r:Fin U El}
structure Inv (X:Ctx U El) (B:Bd) (S0:Nat→Prop) (w0:World) (S:Nat→Prop) (ρ:Rho) (st:St U El) (a:Act) (w:World):Prop where
  defers:a.defers=[]
  size:a.tmps.size=X.nt
  below:Fr B w0 w
  hB:∀ k,w.heap.size≤k→B.own k
  s0:∀ b,S0 b→S b
  s1:∀ b,S b→S0 b∨B.own b
  g0:∀ w',Fr B w0 w'→X.E.G w'
  tmps:∀ i,Rel X.E S ρ w (aQ st.t i) (a.tmps.getD i undef)
  heap:HRel X.E S ρ w B st.h
def StRel (X:Ctx U El) (B:Bd) (S0:Nat→Prop) (w0:World) (st:St U El) (a:Act) (w:World):Prop:=∃ S ρ,Inv X B S0 w0 S ρ st a w
theorem il (id:Nat) (t:bz U El) (i:Nat):aQ (jq id t) i=(aQ t i).kill id:=by
  induction t with
  | nil=>rfl
  | cons p t ih =>
    obtain ⟨j,v⟩:=p
    simp only [jq,aQ]
    cases Nat.beq j i<;>simp [ih]
theorem cw (id:Nat) (h:aK U El) (j:Nat):al (lF h id) j=if j=id then none else al h j:=by
  induction h with
  | nil=>simp [lF,al]
  | cons p h ih =>
    obtain ⟨i,b⟩:=p
    simp only [lF]
    by_cases e:i=id
    · subst e
      rw [Nat.beq_refl]
      simp only [cond,ih,al]
      by_cases e2:j=i
      · simp [e2]
      · rw [if_neg e2,if_neg e2,aw (Ne.symm e2)]
    · rw [aw e]
      simp only [cond,al,ih]
      by_cases e2:i=j
      · subst e2; rw [Nat.beq_refl]; simp [e]
      · rw [aw e2]
theorem cT (id:Nat) (h:aK U El) (j:Nat):al (oQ id h) j=(al h j).map (Blk.kill id):=by
  induction h with
  | nil=>rfl
  | cons p h ih =>
    obtain ⟨i,b⟩:=p
    simp only [oQ,al]
    cases Nat.beq i j<;>simp [ih]
theorem BlkRel.del {l:Loc} {b:Blk U El} (hX:CtxOk P X) (hb:BlkRel X.E S ρ w B l b) (id:Nat):BlkRel X.E S (ρ.del id) w B l (b.kill id):=by
  cases b with
  | rows u xs =>
    obtain ⟨h1,h2,h3,h4⟩:=hb
    refine ⟨h1,h2,h3,fun hn => ?_⟩
    obtain ⟨h5,h6,c,hh,h7,h8⟩:=h4 hn
    exact ⟨h5,h6,c,hh,h7,fun i x j a hi hj=>by obtain ⟨v,hv,hr⟩:=h8 i x j a hi hj; exact ⟨v,hv,hr.cellρ hX.u (hX.u.cell u x a (List.mem_of_getElem? hj))⟩⟩
  | map u v es =>
    obtain ⟨h1,h4,h5,c0,c1,hh,h6,h7⟩:=hb
    exact ⟨h1,h4,h5,c0,c1,hh,h6,fun i e p hi hj=>⟨(h7 i e p hi hj).1.cellρ hX.u,(h7 i e p hi hj).2.cellρ hX.u⟩⟩
  | box t cs =>
    obtain ⟨h0,h1,h2⟩:=hb
    refine ⟨h0,by simpa using h1,fun hn => ?_⟩
    obtain ⟨h5,h6,c,e,hh,h7,h8⟩:=h2 hn
    refine ⟨h5,h6,c,e,hh,h7,fun j a hj => ?_⟩
    simp only [List.getElem?_map,Option.map_eq_some_iff] at hj
    obtain ⟨a0,ha0,rfl⟩:=hj
    obtain ⟨v,hv,hr⟩:=h8 j a0 ha0
    exact ⟨v,hv,hr.kill hX.u id⟩
  | bld T j =>
    obtain ⟨h1,h4,h5,c0,c1,hh,h6,h7,h8⟩:=hb
    by_cases e:j=id
    · subst e
      show BlkRel X.E S _ w B l (bif Nat.beq j j then .box 0 [.any,.any] else .bld T j)
      rw [Nat.beq_refl]
      refine ⟨.inl rfl,h1,fun _=>⟨h4,h5,#[c0,c1],T,hh,by simp [h1],fun i a hi => ?_⟩⟩
      match i,hi with
      | 0,hi=>cases hi; exact ⟨c0,rfl,.any _⟩
      | 1,hi=>cases hi; exact ⟨c1,rfl,.any _⟩
    · show BlkRel X.E S _ w B l (bif Nat.beq j id then .box 0 [.any, .any] else .bld T j)
      rw [aw e]
      exact ⟨h1,h4,h5,c0,c1,hh,h6,h7,h8.del hX.u id (by simp [AV.ment,e])⟩
theorem Inv.forget (hX:CtxOk P X) (hi:Inv X B S0 w0 S ρ st a w) (id:Nat):Inv X B S0 w0 S (ρ.del id) (st.forget id) a w where
  defers:=hi.defers
  size:=hi.size
  below:=hi.below
  hB:=hi.hB
  s0:=hi.s0
  s1:=hi.s1
  g0:=hi.g0
  tmps:=fun i=>by
    show Rel X.E S (ρ.del id) w (aQ (jq id st.t) i) _
    rw [il]
    exact (hi.tmps i).kill hX.u id
  heap:=by
    have key:∀ j b,al (st.forget id).h j=some b→j≠id∧∃ b0,al st.h j=some b0∧b=b0.kill id:=fun j b hg=>by
      simp only [St.forget,cT,cw,Option.map_eq_some_iff] at hg
      obtain ⟨b0,hb0,rfl⟩:=hg
      split at hb0
      · cases hb0
      · rename_i e; exact ⟨e,b0,hb0,rfl⟩
    refine ⟨fun j b hg => ?_,fun i j b b' l l' hgi hgj hne hli hlj hn hn' => ?_,hi.heap.lt⟩
    · obtain ⟨e, b0, hb0, rfl⟩ := key j b hg
      obtain ⟨l,hl,hb⟩:=hi.heap.get j b0 hb0
      exact ⟨l,by simp [Rho.del,e,hl],hb.del hX id⟩
    · obtain ⟨e1, b1, hb1, _⟩ := key i b hgi
      obtain ⟨e2,b2,hb2,_⟩:=key j b' hgj
      exact hi.heap.inj i j b1 b2 l l' hb1 hb2 hne (by simpa [Rho.del,e1] using hli) (by simpa [Rho.del,e2] using hlj) hn hn'
def Rho.dels (ρ:Rho):List Nat→Rho
  | []=>ρ
  | id :: ids=>(ρ.del id).dels ids
theorem fa:∀ (ids:List Nat) (ρ:Rho) (j:Nat),(ρ j=none∨j∈ids)→ρ.dels ids j=none:=by
  intro ids
  induction ids with
  | nil=>intro ρ j h; exact h.resolve_right (by simp)
  | cons id ids ih =>
    intro ρ j h
    refine ih _ j ?_
    rcases h with h | h
    · left; simp [Rho.del,h]
    · rcases List.mem_cons.1 h with e | h
      · left; simp [Rho.del,e]
      · exact .inr h
theorem Inv.forgets (hX:CtxOk P X):∀ (ids:List Nat) {st:St U El} {ρ:Rho},Inv X B S0 w0 S ρ st a w→Inv X B S0 w0 S (ρ.dels ids) (st.forgets ids) a w:=by
  intro ids
  induction ids with
  | nil=>intro st ρ h; exact h
  | cons id ids ih=>intro st ρ h; exact ih (h.forget hX id)
theorem fK {t:bz U El} {d:Option Nat} {v:Value} {av:AV U El} {a:Act} (hd:∀ e,d=some e→e < a.tmps.size) (ht:∀ i,Rel X.E S ρ w (aQ t i) (a.tmps.getD i undef)) (hv:Rel X.E S ρ w av v) :
    ∀ i,Rel X.E S ρ w (aQ (match d with | some d=>(d,av) :: t | none=>t) i) ((a.put d v).tmps.getD i undef):=by
  intro i
  cases d with
  | none=>exact ht i
  | some e =>
    simp only [aQ,Act.put]
    have he:=hd e rfl
    by_cases h:e=i
    · subst h
      rw [Nat.beq_refl]
      simp only [cond,Array.getD_eq_getD_getElem?,Array.getElem?_setIfInBounds_self_of_lt he,Option.getD_some]
      exact hv
    · rw [aw h]
      simp only [cond,Array.getD_eq_getD_getElem?,Array.getElem?_setIfInBounds_ne h]
      have:=ht i
      rwa [Array.getD_eq_getD_getElem?] at this
theorem Inv.put {S':Nat→Prop} {ρ':Rho} {w':World} {v:Value} {out:Out U El} {dst:Option Nat} (hi:Inv X B S0 w0 S ρ st a w) (hd:∀ e,dst=some e→e < X.nt) (hst:Step S ρ w S' ρ' w') (hv:Rel X.E S' ρ' w' out.v v) (hN:HRel X.E S' ρ' w' (gH w) out.new)
    (hnew:∀ id b,al out.new id=some b→ρ id=none):Inv X B S0 w0 S' ρ' (st.put dst out) (a.put dst v) w' where
  defers:=by cases dst<;>exact hi.defers
  size:=by cases dst<;>simp [Act.put,hi.size]
  below:=hi.below.trans (hst.fr.mono hi.hB)
  hB:=fun k hk=>hi.hB k (Nat.le_trans hst.fr.size hk)
  s0:=fun b hb=>hst.s1 b (hi.s0 b hb)
  s1:=fun b hb=>by
    rcases hst.s2 b hb with e | e
    · exact hi.s1 b e
    · exact .inr (hi.hB _ e)
  g0:=hi.g0
  tmps:=fK (fun e he=>by rw [hi.size]; exact hd e he) (fun i=>hst.rel (hi.tmps i)) hv
  heap:=hst.heap hi.heap hN hi.hB hnew
theorem cH (h:aK U El) (id:Nat) (c:Blk U El) (j:Nat):al (bZ h id c) j=if j=id then (al h id).map (fun _=>c) else al h j:=by
  induction h with
  | nil=>simp [bZ,al]
  | cons p h ih =>
    obtain ⟨i,b⟩:=p
    simp only [bZ]
    by_cases e:i=id
    · subst e
      rw [Nat.beq_refl]
      simp only [cond,al,Nat.beq_refl]
      by_cases e2:i=j
      · subst e2; simp [Nat.beq_refl]
      · rw [aw e2,if_neg (Ne.symm e2)]
    · rw [aw e]
      simp only [cond,al,ih]
      by_cases e2:i=j
      · subst e2; rw [Nat.beq_refl]; simp [e]
      · rw [aw e2,aw e]
theorem Inv.setRow {id:Nat} {l:Loc} {b c:Blk U El} {cells:Array Value} {old:Array Value} {e:TypeId} (hi:Inv X B S0 w0 S ρ st a w) (hg:al st.h id=some b) (hl:ρ id=some l) (hb:BlkRel X.E S ρ w B l b) (hn:l.n≠0) (hh:w.heap[l.b]? = some (.cells old e (0,0)))
    (hc:BlkRel X.E S ρ (w.setRow l.b cells) B l c):Inv X B S0 w0 S ρ ⟨st.t,bZ st.h id c⟩ a (w.setRow l.b cells):=by
  obtain ⟨h1,h2,h3⟩:=hb.lt hn
  have hsame:∀ k,S k→(w.setRow l.b cells).heap[k]? = w.heap[k]? := fun k hk=>setRow_other w l.b k cells (by rintro rfl; exact h3 hk)
  refine ⟨hi.defers,hi.size,hi.below.trans ⟨rfl,rfl,rfl,by simp,Nat.le_refl _,fun k hk hb=>setRow_other w l.b k cells (by rintro rfl; exact hb h2)⟩,by simpa using hi.hB,hi.s0,hi.s1,hi.g0,fun i=>(hi.tmps i).mono (fun _ h=>h) hsame (fun _ _ h=>h),⟨fun j b' hj => ?_,fun i j b1 b2 l1 l2 hgi hgj hne hli hlj hn1 hn2 => ?_,fun k hk=>by simpa using hi.heap.lt k hk⟩⟩
  · rw [cH] at hj
    by_cases e:j=id
    · subst e
      rw [if_pos rfl,hg] at hj
      cases hj
      exact ⟨l,hl,hc⟩
    · rw [if_neg e] at hj
      obtain ⟨l',hl',hb'⟩:=hi.heap.get j b' hj
      refine ⟨l',hl',hb'.mono (fun _ h=>h) hsame (fun _ _ h=>h) fun hn'=>⟨setRow_other w l.b _ cells ?_,(hb'.lt hn').2.2⟩⟩
      exact hi.heap.inj j id b' b l' l hj hg e hl' hl hn' hn
  · have k : ∀ j b', al (bZ st.h id c) j = some b' → ∃ b0, al st.h j = some b0 := fun j b' h => by
      rw [cH] at h
      split at h
      · rename_i e; subst e; exact ⟨b,hg⟩
      · exact ⟨b',h⟩
    obtain ⟨b1',hb1⟩:=k i b1 hgi
    obtain ⟨b2',hb2⟩:=k j b2 hgj
    exact hi.heap.inj i j b1' b2' l1 l2 hb1 hb2 hne hli hlj hn1 hn2
theorem g7 {c:AV U El} {v:Value} (hr:Rel X.E S ρ w c v) (h:c.one=true):v.oneCell'=true:=by
  cases hr<;>first | rfl | (simp [AV.one] at h; done)
theorem rN {ty:TypeId} {td:TD U} {sz:Nat} {ag:Bool} (hk:nO P X.E ty td) (h:iK td=some (sz,ag)) (h1:ag=false→∃ i,P.info? ty=some i∧i.size=1):∃ i,P.info? ty=some i∧i.size=sz:=by
  cases hag:ag with
  | true=>exact (lO hk h).2 hag
  | false =>
    obtain ⟨i,hi,h2⟩:=h1 hag
    subst hag
    have:sz=1:=by cases td<;>simp [iK] at h<;>omega
    exact ⟨i,hi,by rw [h2,this]⟩
theorem fb {α:Type} (x n y:List α) (off:Nat) (ho:off=x.length) (j:Nat):(x++n++y)[j]? = if j < off then x[j]? else if j < off+n.length then n[j - off]? else y[j - (off+n.length)]? := by
  subst ho
  split
  · rename_i h
    rw [List.append_assoc,List.getElem?_append_left h]
  · split
    · rename_i h1 h2
      rw [List.append_assoc,List.getElem?_append_right (by omega),List.getElem?_append_left (by omega)]
    · rename_i h1 h2
      rw [List.getElem?_append_right (by simp; omega)]
      simp
theorem g8 {ty : TypeId} {p v : Operand} {k : St U El → Option (Fin U El)} (hX : CtxOk P X) (ho : o.op = .store ty p v) (hi : Inv X B S0 w0 S ρ st a w)
    (hv:da X ty (oget st.t p) (oget st.t v) st k=some r) {next:Act→World→Prop} {Q:Exit→Act→World→Prop} (hd:∀ e,o.dst=some e→False)
    (hn:∀ st' w',(∀ b,S b→w'.heap[b]? = w.heap[b]?)→Inv X B S0 w0 S ρ st' a w'→k st'=some r→next a w'):o.wp P a w next Q:=by
  have hdst:o.dst=none:=by
    cases e:o.dst with
    | none=>rfl
    | some d=>exact (hd d e).elim
  have hpr:Rel X.E S ρ w (oget st.t p) (a.eval p):=Rel.oget fun i _=>hi.tmps i
  have hvr:Rel X.E S ρ w (oget st.t v) (a.eval v):=Rel.oget fun i _=>hi.tmps i
  unfold da at hv
  split at hv
  · rename_i td htd
    split at hv
    · rename_i sz ag ns hag hns
      obtain ⟨hck,hv1⟩:=af hv
      simp only [Bool.and_eq_true] at hck
      obtain ⟨⟨hl,hpos⟩,hone⟩:=hck
      have hpos:0 < sz:=Nat.le_of_ble_eq_true hpos
      have hl:ns.length=sz:=Nat.eq_of_beq_eq_true hl
      obtain ⟨hcs,hcr⟩:=dS hvr hns
      obtain ⟨ti,hti,hti1⟩:=hX.one _ _ htd
      have hsz:∃ i,P.info? ty=some i∧i.size=sz:=rN (hX.td _ _ htd) hag (fun e=>by
        obtain ⟨⟨dd,hd1,hd2⟩,_⟩:=lO (hX.td _ _ htd) hag
        exact ⟨ti,hti,hti1 (by rw [qu hd1,hd2,e])⟩)
      obtain ⟨inf,hinf,hinfs⟩:=hsz
      have hones:∀ x∈(a.eval v).cells.toList,x.oneCell'=true:=fun x hx=>by
        obtain ⟨j,hj⟩:=List.getElem?_of_mem hx
        have hj':(a.eval v).cells[j]? = some x:=by simpa using hj
        have hjl:j < ns.length:=by rw [← hcs]; exact (Array.getElem?_eq_some_iff.1 hj').1
        exact g7 (hcr j _ x (List.getElem?_eq_getElem hjl) hj') (by simp at hone; exact hone _ (List.getElem_mem hjl))
      have hrun:∀ (b off:Nat) (cur:Array Value) (e:TypeId),a.eval p = .pointer (some ⟨b,off,none⟩)→w.heap[b]? = some (.cells cur e (0,0))→off+ns.length≤cur.size →
          (execOp a.eval o).run P w = .ok .skip (w.setRow b (cur.toList.take off++(a.eval v).cells.toList++cur.toList.drop (off+ns.length)).toArray):=fun b off cur e he hh hle=>by
        have hst:=run_storeCells_at P b off e (a.eval v).cells.toList 0 cur w hh (by simp [hcs]; omega) hones
        simp only [Nat.add_zero,Array.length_toList,hcs] at hst
        simp [execOp,ho,Instr.storeAt,Instr.sureAddr,he,storeVar,dl hinf,hinfs,hcs,hl]
        rw [hst]
        simp [hl]
      have hgo:∀ {b off:Nat} {cur:Array Value} {e:TypeId} {st':St U El},a.eval p = .pointer (some ⟨b,off,none⟩)→w.heap[b]? = some (.cells cur e (0,0))→off+ns.length≤cur.size→¬ S b→k st'=some r →
          Inv X B S0 w0 S ρ st' a (w.setRow b (cur.toList.take off++(a.eval v).cells.toList++cur.toList.drop (off+ns.length)).toArray)→o.wp P a w next Q:=by
        intro b off cur e st' he hh hle hnS hk hinv
        unfold Oper.wp
        rw [hrun b off cur e he hh hle]
        show next (a.put o.dst undef) _
        rw [hdst]
        exact hn st' _ (fun k hk=>setRow_other w b k _ (by rintro rfl; exact hnS hk)) hinv hk
      split at hv1
      · rename_i id off hpe
        split at hv1
        · rename_i tg cs hg
          obtain ⟨hb,hk⟩:=af hv1
          have hle:off+sz≤cs.length:=Nat.le_of_ble_eq_true hb
          obtain ⟨l,hlρ,hbl⟩:=hi.heap.get _ _ hg
          have hbl':=hbl
          obtain ⟨b0,b1,b2⟩:=hbl
          by_cases hn0:l.n=0
          · exfalso; omega
          · obtain ⟨b3, b4, cur, e, hh, b5, b6⟩ := b2 hn0
            rw [hpe] at hpr
            generalize hq:a.eval p=q at hpr
            cases hpr with
            | ptr _ _ l' hl' =>
              rw [hlρ] at hl'; cases hl'
              refine hgo hq hh (by omega) b4 hk (hi.setRow hg hlρ hbl' hn0 hh ?_)
              have hlen:(cs.take off++ns++cs.drop (off+sz)).length=cs.length:=by simp; omega
              have hsame:∀ k,S k→(w.setRow l.b (cur.toList.take off++(a.eval v).cells.toList++cur.toList.drop (off+ns.length)).toArray).heap[k]? = w.heap[k]? := fun k hk=>setRow_other w l.b k _ (by rintro rfl; exact b4 hk)
              refine ⟨b0,by rw [hlen]; exact b1,fun _=>⟨b3,b4,_,e,setRow_heap w l.b cur _ e _ hh,by simp [hcs]; omega,fun j c hj => ?_⟩⟩
              rw [fb _ _ _ off (by simp; omega)] at hj
              simp only [List.getElem?_toArray]
              rw [fb _ _ _ off (by simp; omega)]
              simp only [Array.length_toList,hcs]
              split at hj
              · rename_i h1
                rw [if_pos h1]
                rw [List.getElem?_take_of_lt h1] at hj ⊢
                obtain ⟨x,hx,hrx⟩:=b6 j c hj
                exact ⟨x,by simpa using hx,hrx.mono (fun _ h=>h) hsame (fun _ _ h=>h)⟩
              · rename_i h1
                rw [if_neg h1]
                split at hj
                · rename_i h2
                  rw [if_pos h2]
                  have hjl:j - off < (a.eval v).cells.size:=by omega
                  refine ⟨(a.eval v).cells[j - off],by simp [hjl],?_⟩
                  exact (hcr _ c _ hj (Array.getElem?_eq_getElem hjl)).mono (fun _ h=>h) hsame (fun _ _ h=>h)
                · rename_i h2
                  rw [if_neg h2]
                  rw [List.getElem?_drop] at hj ⊢
                  obtain ⟨x,hx,hrx⟩:=b6 _ c hj
                  refine ⟨x,?_,hrx.mono (fun _ h=>h) hsame (fun _ _ h=>h)⟩
                  rw [← hx,hl]
                  simp
        · cases hv1
      · rename_i id i off hpe
        split at hv1
        · rename_i u xs hg
          obtain ⟨hb,hk0⟩:=af hv1
          simp only [Bool.and_eq_true] at hb
          obtain ⟨hbi,hbo⟩:=hb
          have hil:i < xs.length:=by simpa [nlt] using hbi
          have hle:off+sz≤X.E.sz u:=Nat.le_of_ble_eq_true hbo
          split at hk0
          · rename_i y hy
            obtain ⟨l,hlρ,hbl⟩:=hi.heap.get _ _ hg
            have hbl':=hbl
            obtain ⟨c1,c2,c3,c4⟩:=hbl
            have hp:=hX.u.pos u
            have hn0:l.n≠0:=by have:=Nat.mul_pos (show 0 < xs.length by omega) hp; omega
            obtain ⟨b3,b4,cur,hh,b5,b6⟩:=c4 hn0
            have hrow:(i+1) * X.E.sz u≤xs.length * X.E.sz u:=Nat.mul_le_mul_right _ hil
            rw [Nat.add_mul,Nat.one_mul] at hrow
            rw [hpe] at hpr
            generalize hq:a.eval p=q at hpr
            cases hpr with
            | row _ _ _ l' hl' =>
              rw [hlρ] at hl'; cases hl'
              rw [c1] at hq
              refine hgo hq hh (by omega) b4 hk0 (hi.setRow hg hlρ hbl' hn0 hh ?_)
              have hsame:∀ k,S k→(w.setRow l.b (cur.toList.take (i * X.E.sz u+off)++(a.eval v).cells.toList++cur.toList.drop (i * X.E.sz u+off+ns.length)).toArray).heap[k]? = w.heap[k]? := fun k hk=>setRow_other w l.b k _ (by rintro rfl; exact b4 hk)
              refine ⟨c1,by simpa using c2,by simpa using c3,fun _=>⟨b3,b4,_,setRow_heap w l.b cur _ _ _ hh,by simp [hcs]; omega,fun i' x j c hix hjc => ?_⟩⟩
              have hjl:j < X.E.sz u:=by rw [← hX.u.len u x]; exact (List.getElem?_eq_some_iff.1 hjc).1
              simp only [List.getElem?_toArray]
              rw [fb _ _ _ (i * X.E.sz u+off) (by simp; omega)]
              simp only [Array.length_toList,hcs]
              by_cases he:i'=i
              · subst he
                rw [List.getElem?_set_self hil] at hix
                cases hix
                obtain ⟨d1,d2⟩:=hX.u.dec _ _ _ hy
                obtain ⟨c',hc',hor⟩:=d2 j c hjc
                have hxi:xs[i']? = some (xs.getD i' (X.E.dflt u)):=by simp [List.getD,List.getElem?_eq_getElem hil]
                have henc:=hX.u.len u (xs.getD i' (X.E.dflt u))
                have final:∀ vv,Rel X.E S ρ w c' vv→Rel X.E S ρ (w.setRow l.b (cur.toList.take (i' * X.E.sz u+off)++(a.eval v).cells.toList++cur.toList.drop (i' * X.E.sz u+off+ns.length)).toArray) c vv:=fun vv hr=>by
                  rcases hor with rfl | ⟨rfl,u',rfl⟩
                  · exact hr.mono (fun _ h=>h) hsame (fun _ _ h=>h)
                  · cases hr; exact .lstE u' _ _
                rw [fb _ _ _ off (by rw [List.length_take,henc]; omega)] at hc'
                split at hc'
                · rename_i h1
                  rw [if_pos (by omega)]
                  rw [List.getElem?_take_of_lt h1] at hc'
                  obtain ⟨x,hx,hrx⟩:=b6 i' _ j c' hxi hc'
                  exact ⟨x,by rw [List.getElem?_take_of_lt (by omega)]; simpa using hx,final x hrx⟩
                · rename_i h1
                  rw [if_neg (by omega)]
                  split at hc'
                  · rename_i h2
                    rw [if_pos (by omega)]
                    have hjl':j - off < (a.eval v).cells.size:=by omega
                    refine ⟨(a.eval v).cells[j - off],?_,final _ (hcr _ c' _ hc' (Array.getElem?_eq_getElem hjl'))⟩
                    rw [show i' * X.E.sz u+j - (i' * X.E.sz u+off)=j - off by omega]
                    simp [hjl']
                  · rename_i h2
                    rw [if_neg (by omega)]
                    rw [List.getElem?_drop] at hc'
                    obtain ⟨x,hx,hrx⟩:=b6 i' _ _ c' hxi hc'
                    refine ⟨x,?_,final x hrx⟩
                    rw [List.getElem?_drop,← hx]
                    simp
                    congr 1
                    omega
              · rw [List.getElem?_set_ne (Ne.symm he)] at hix
                obtain ⟨x',hx',hrx⟩:=b6 i' x j c hix hjc
                refine ⟨x',?_,hrx.mono (fun _ h=>h) hsame (fun _ _ h=>h)⟩
                rcases Nat.lt_or_gt_of_ne he with h1 | h1
                · have h2 : (i' + 1) * X.E.sz u ≤ i * X.E.sz u := Nat.mul_le_mul_right _ h1
                  rw [Nat.add_mul,Nat.one_mul] at h2
                  rw [if_pos (by omega),List.getElem?_take_of_lt (by omega)]
                  simpa using hx'
                · have h2 : (i + 1) * X.E.sz u ≤ i' * X.E.sz u := Nat.mul_le_mul_right _ h1
                  rw [Nat.add_mul,Nat.one_mul] at h2
                  rw [if_neg (by omega),if_neg (by omega),List.getElem?_drop,← hx']
                  simp
                  congr 1
                  omega
          · cases hk0
        · cases hv1
      · cases hv1
    · cases hv
  · cases hv
theorem kF {ty:TypeId} {p v:Operand} {k:St U El→Option (Fin U El)} (hX:CtxOk P X) (ho:o.op = .store ty p v) (hi:Inv X B S0 w0 S ρ st a w)
    (hv:da X ty (oget st.t p) (oget st.t v) st k=some r) {next:Act→World→Prop} {Q:Exit→Act→World→Prop} (hd:∀ e,o.dst=some e→False)
    (hn:∀ st' a' w',StRel X B S0 w0 st' a' w'→k st'=some r→next a' w'):o.wp P a w next Q :=
  g8 hX ho hi hv hd fun st' w' _ hinv hk=>hn st' a w' ⟨S,ρ,hinv⟩ hk
theorem mG {ty : TypeId} {p v : AV U El} {id : Nat} {k : St U El → Option (Fin U El)} (hnm : jv id p = true) (hv : da X ty p v st k = some r) :
    ∃ b old,al st.h id=some old∧k ⟨st.t,bZ st.h id b⟩=some r∧∀ (aA:St U El) (k2:St U El→Option (Fin U El)),al aA.h id=some old→da X ty p v aA k2=k2 ⟨aA.t,bZ aA.h id b⟩:=by
  unfold da at hv
  split at hv
  · rename_i td htd
    split at hv
    · rename_i sz ag ns hag hns
      obtain ⟨hck,hv1⟩:=af hv
      split at hv1
      · rename_i j off
        obtain rfl:=Nat.eq_of_beq_eq_true (show Nat.beq j id=true from hnm)
        split at hv1
        · rename_i tg cs hg
          obtain ⟨hb,hk⟩:=af hv1
          refine ⟨_,_,hg,hk,fun aA k2 h2 => ?_⟩
          unfold da
          rw [htd]
          simp only [hag,hns,hck,h2,hb,chk,cond_true]
        · cases hv1
      · rename_i j i off
        obtain rfl:=Nat.eq_of_beq_eq_true (show Nat.beq j id=true from hnm)
        split at hv1
        · rename_i u xs hg
          obtain ⟨hb,hk0⟩:=af hv1
          split at hk0
          · rename_i y hy
            refine ⟨_,_,hg,hk0,fun aA k2 h2 => ?_⟩
            unfold da
            rw [htd]
            simp only [hag,hns,hck,h2,hb,hy,chk,cond_true]
          · cases hk0
        · cases hv1
      · cases hv1
    · cases hv
  · cases hv
theorem Inv.setMap {id:Nat} {l:Loc} {u v:U} {es es':List (El u×El v)} {ents ents':Array MapEntry} {clock clock':Nat} (hi:Inv X B S0 w0 S ρ st a w) (hg:al st.h id=some (.map u v es)) (hl:ρ id=some l) (hh:w.heap[l.b]? = some (.map ents clock))
    (hsz:ents'.size=es'.length) (hent:∀ (i:Nat) (e:MapEntry) (p:El u×El v),ents'[i]? = some e→es'[i]? = some p→ERel X.E S ρ w u p.1 e.key∧ERel X.E S ρ w v p.2 e.val) :
    (∀ b,S b→({ w with heap:=w.heap.setIfInBounds l.b (.map ents' clock') }:World).heap[b]? = w.heap[b]?)∧Inv X B S0 w0 S ρ ⟨st.t,bZ st.h id (.map u v es')⟩ a { w with heap:=w.heap.setIfInBounds l.b (.map ents' clock') }:=by
  obtain ⟨l',hl',hb⟩:=hi.heap.get _ _ hg
  rw [hl] at hl'; cases hl'
  have hn:l.n≠0:=by have:=hb.1; omega
  obtain ⟨h1,h2,h3⟩:=hb.lt hn
  have hoth:∀ k,k≠l.b→({ w with heap:=w.heap.setIfInBounds l.b (.map ents' clock') }:World).heap[k]? = w.heap[k]? := fun k hk=>by simp [Ne.symm hk]
  have hsame:∀ k,S k→({ w with heap:=w.heap.setIfInBounds l.b (.map ents' clock') }:World).heap[k]? = w.heap[k]? := fun k hk=>hoth k (by rintro rfl; exact h3 hk)
  refine ⟨hsame,hi.defers,hi.size,hi.below.trans ⟨rfl,rfl,rfl,by simp,Nat.le_refl _,fun k hk hb=>hoth k (by rintro rfl; exact hb h2)⟩,by simpa using hi.hB,hi.s0,hi.s1,hi.g0,fun i=>(hi.tmps i).mono (fun _ h=>h) hsame (fun _ _ h=>h),⟨fun j b' hj => ?_,fun i j b1 b2 l1 l2 hgi hgj hne hli hlj hn1 hn2 => ?_,fun k hk=>by simpa using hi.heap.lt k hk⟩⟩
  · rw [cH] at hj
    by_cases e:j=id
    · subst e
      rw [if_pos rfl,hg] at hj
      cases hj
      exact ⟨l,hl,hb.1,h2,h3,ents',clock',by simp [h1],hsz,fun i e p hi' hp=>⟨(hent i e p hi' hp).1.mono (fun _ h=>h) hsame (fun _ _ h=>h),(hent i e p hi' hp).2.mono (fun _ h=>h) hsame (fun _ _ h=>h)⟩⟩
    · rw [if_neg e] at hj
      obtain ⟨l',hl',hb'⟩:=hi.heap.get j b' hj
      refine ⟨l',hl',hb'.mono (fun _ h=>h) hsame (fun _ _ h=>h) fun hn'=>⟨hoth _ ?_,(hb'.lt hn').2.2⟩⟩
      exact hi.heap.inj j id b' _ l' l hj hg e hl' hl hn' hn
  · have k : ∀ j b', al (bZ st.h id (.map u v es')) j = some b' → ∃ b0, al st.h j = some b0 := fun j b' h => by
      rw [cH] at h
      split at h
      · rename_i e; subst e; exact ⟨_,hg⟩
      · exact ⟨b',h⟩
    obtain ⟨b1',hb1⟩:=k i b1 hgi
    obtain ⟨b2',hb2⟩:=k j b2 hgj
    exact hi.heap.inj i j b1' b2' l1 l2 hb1 hb2 hne hli hlj hn1 hn2
theorem fL {ty : TypeId} {m ix x : Operand} {k : St U El → Option (Fin U El)} (hX : CtxOk P X) (ho : o.op = .mapUpdate ty m ix x ∨ o.op = .insert ty m ix x) (hi : Inv X B S0 w0 S ρ st a w)
    (hv:en X ty (oget st.t m) (oget st.t ix) (oget st.t x) st k=some r) {next:Act→World→Prop} {Q:Exit→Act→World→Prop} (hdst:o.dst=none)
    (hn:∀ st' w',(∀ b,S b→w'.heap[b]? = w.heap[b]?)→Inv X B S0 w0 S ρ st' a w'→k st'=some r→next a w'):o.wp P a w next Q:=by
  have hmr:Rel X.E S ρ w (oget st.t m) (a.eval m):=Rel.oget fun i _=>hi.tmps i
  have hir:Rel X.E S ρ w (oget st.t ix) (a.eval ix):=Rel.oget fun i _=>hi.tmps i
  have hxr:Rel X.E S ρ w (oget st.t x) (a.eval x):=Rel.oget fun i _=>hi.tmps i
  have hex:(execOp a.eval o)=(do Instr.mapUpdate ty (a.eval m) (a.eval ix) (a.eval x); pure .skip):=by rcases ho with ho | ho<;>simp [execOp,ho]
  unfold en at hv
  split at hv
  · rename_i u v id htd hm
    split at hv
    · rename_i u' v' es hg
      obtain ⟨hck,hv1⟩:=af hv
      simp only [Bool.and_eq_true,decide_eq_true_eq] at hck
      obtain ⟨rfl,rfl,h3,h4⟩:=hck
      split at hv1
      · rename_i y z hy hz
        obtain ⟨l,ents,clock,hl,hq,_,_,_,hh,hsz,hent⟩:=nU (t:=st.t) (m:=m) hmr hm hi.heap hg
        have hkey:=g5 hX.u hy hir
        have hval:=g5 hX.u hz hxr
        have K:=hX.u.key _ h3
        have hu:P.underlying ty=some (.map (X.E.tid u') (X.E.tid v')):=hX.td _ _ htd
        have fin:∀ {ents':Array MapEntry} {clock':Nat},(Instr.mapUpdate ty (a.eval m) (a.eval ix) (a.eval x)).run P w = .ok () { w with heap:=w.heap.setIfInBounds l.b (.map ents' clock') }→ents'.size=(eI (X.E.keq u') es y z).length →
            (∀ (i:Nat) (e:MapEntry) (p:El u'×El v'),ents'[i]? = some e→(eI (X.E.keq u') es y z)[i]? = some p→ERel X.E S ρ w u' p.1 e.key∧ERel X.E S ρ w v' p.2 e.val)→o.wp P a w next Q:=by
          intro ents' clock' hrun hsz' hent'
          obtain ⟨g1,g2⟩:=hi.setMap (clock':=clock') hg hl hh hsz' hent'
          unfold Oper.wp
          rw [hex]
          simp only [Sem.run_bind,hrun,Result.andThen_ok,Sem.run_pure]
          show next (a.put o.dst undef) _
          rw [hdst]
          exact hn _ _ g1 g2 hv1
        rcases jH K hsz hent hkey with ⟨hf,hmi0⟩ | ⟨j,e,p,hf,hmi,he,hp,hkq,hr1,hr2⟩
        · have hp : eI (X.E.keq u') es y z = es ++ [(y, z)] := by rw [mC, hmi0]
          refine fin (ents':=ents.push { key:=a.eval ix,val:=a.eval x,born:=clock }) (clock':=clock+1) ?_ (by rw [hp]; simp [hsz]) (fun i e p he hpi => ?_)
          · simp [Instr.mapUpdate,run_underlying hu,hq,MapKept.run_getObj_map hh,K.check _ hkey,hf,MapKept.run_setObj_map _ hh]
          · rw [hp] at hpi
            rw [Array.getElem?_push] at he
            by_cases hi':i=ents.size
            · rw [if_pos hi'] at he
              rw [hi',hsz,List.getElem?_append_right (Nat.le_refl _)] at hpi
              simp at hpi he
              subst hpi he
              exact ⟨hkey,hval⟩
            · rw [if_neg hi'] at he
              have hlt:i < es.length:=by rw [← hsz]; exact (Array.getElem?_eq_some_iff.1 he).1
              rw [List.getElem?_append_left hlt] at hpi
              exact hent i e p he hpi
        · have hpu : eI (X.E.keq u') es y z = es.set j (y, z) := by rw [mC, hmi]
          have hjl:j < ents.size:=(Array.getElem?_eq_some_iff.1 he).1
          refine fin (ents':=ents.modify j fun e=>{ e with key:=a.eval ix,val:=a.eval x }) (clock':=clock) ?_ (by rw [hpu]; simp [hsz]) (fun i e' p' he' hpi => ?_)
          · simp [Instr.mapUpdate,run_underlying hu,hq,MapKept.run_getObj_map hh,K.check _ hkey,hf,he,K.stays hkey hr1 hkq,MapKept.run_setObj_map _ hh]
          · rw [hpu] at hpi
            rw [Array.getElem?_modify] at he'
            by_cases hij:j=i
            · subst hij
              rw [if_pos rfl,he] at he'
              rw [List.getElem?_set_self (by rw [← hsz]; exact hjl)] at hpi
              cases hpi
              cases he'
              exact ⟨hkey,hval⟩
            · rw [if_neg hij] at he'
              rw [List.getElem?_set_ne hij] at hpi
              exact hent i e' p' he' hpi
      · cases hv1
    · cases hv
  · cases hv
theorem nZ {ty : TypeId} {m ix x : AV U El} {id : Nat} {k : St U El → Option (Fin U El)} (hnm : jv id m = true) (hv : en X ty m ix x st k = some r) :
    ∃ b old,al st.h id=some old∧k ⟨st.t,bZ st.h id b⟩=some r∧∀ (aA:St U El) (k2:St U El→Option (Fin U El)),al aA.h id=some old→en X ty m ix x aA k2=k2 ⟨aA.t,bZ aA.h id b⟩:=by
  unfold en at hv
  split at hv
  · rename_i u v j htd
    obtain rfl:=Nat.eq_of_beq_eq_true (show Nat.beq j id=true from hnm)
    split at hv
    · rename_i u' v' es hg
      obtain ⟨hck,hv1⟩:=af hv
      split at hv1
      · rename_i y z hy hz
        refine ⟨_,_,hg,hv1,fun aA k2 h2 => ?_⟩
        unfold en
        rw [htd]
        simp only [h2,hck,hy,hz,chk,cond_true]
      · cases hv1
    · cases hv
  · cases hv
end
end Go.Proofs.YthdimnlkcgchoaaGreat
