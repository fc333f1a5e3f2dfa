/- The operations of a region, on: calls; all of them in one. -/
import Derived.Test.YtkeplmpcijigaaaLGA
namespace Go.Proofs.Ytkeplmpcijigaaa
set_option linter.unusedVariables false
set_option linter.unusedSectionVars false
set_option linter.unusedSimpArgs false
open Go.RowKit
section
variable {U:Type} {El:U→Type} {P:Program} {X:Ctx U El} {S Sa S1 S':Nat→Prop} {ρ ρ0 ρ1 ρ':Rho} {w w':World} [DecidableEq U] [Drw]
variable {o:Oper} {a:Act} {t:Tmps U El} {h H:Heap U El} {B:Bd} {d:Nat} {r:Fin U El}
theorem cell_plain {c:AV U El} (h:c.cell=true):c.plain=true:=by
  cases c<;>first | rfl | (simp [AV.cell] at h; done)
theorem Rel.to {c:AV U El} {v:Value} (hX:CtxOk P X) (hr:Rel X.E S ρ w c v) (hS:∀ b,S b→Sa b) (hc:c.cell=true):Rel X.E Sa ρ0 w c v :=
  (hr.mono (ρ':=ρ) hS (fun _ _=>rfl) (fun _ _ h=>h)).cellρ hX.u hc
def OwnIn (H:Heap U El) (ρ:Rho) (Sa:Nat→Prop):Prop:=∀ id b l,hget H id=some b→ρ id=some l→l.n≠0→Sa l.b
theorem toArg1_rel (hX : CtxOk P X) (hH : HRel X.E S ρ w B H) (hs : ∀ id b, hget h id = some b → hget H id = some b) (hS : ∀ b, S b → Sa b) {td : Option (TD U)} {c c' : AV U El} {v : Value} (hr : Rel X.E S ρ w c v) (hc : toArg1 X h td c = some c') (ho : c.plain = true ∨ OwnIn H ρ Sa) : Rel X.E Sa ρ0 w c' v := by
  unfold toArg1 at hc
  split at hc
  · rename_i id
    split at hc
    · rename_i u xs hg
      cases hc
      have hown:=ho.resolve_left (by simp [AV.plain,AV.cell])
      obtain ⟨l,hl,h1,h2,h3,h4⟩:=hH.get _ _ (hs _ _ hg)
      have hp:=hX.u.pos u
      cases hr with
      | fulN _ l' hl' e1 e2=>rw [hl] at hl'; cases hl'; have:xs=[]:=List.eq_nil_of_length_eq_zero (by omega); subst this; exact .lstE u _ _
      | ful _ cap l' hl' e1 e2 =>
        rw [hl] at hl'; cases hl'
        by_cases hn:l.n=0
        · have : xs.length = 0 := by
            rcases Nat.eq_zero_or_pos xs.length with e | e
            · exact e
            · have:=Nat.mul_pos e hp; omega
          have:xs=[]:=List.eq_nil_of_length_eq_zero this
          subst this
          rw [h2]
          exact .lstE u _ _
        · obtain ⟨_, _, cc, hh, h5, h6⟩ := h4 hn
          rw [h2] at e2 ⊢
          refine .lst u xs l.b 0 cap (fun i j=>(cc[i * X.E.sz u+j]?).getD undef) (hown _ _ _ (hs _ _ hg) hl hn) e2 (fun i x j c hi hj => ?_) (fun i x j c hi hj => ?_)
          · obtain ⟨vv, hv, _⟩ := h6 i x j c hi hj
            rw [Nat.zero_add,cell_of_row w l.b _ cc _ (0,0) hh,hv]; rfl
          · obtain ⟨vv, hv, hrv⟩ := h6 i x j c hi hj
            rw [hv]
            exact hrv.to hX hS (hX.u.cell u x c (List.mem_of_getElem? hj))
    · cases hc
  · rename_i id lo len
    split at hc
    · rename_i u xs hg
      cases hc
      have hown:=ho.resolve_left (by simp [AV.plain,AV.cell])
      obtain ⟨l,hl,h1,h2,h3,h4⟩:=hH.get _ _ (hs _ _ hg)
      have hp:=hX.u.pos u
      cases hr with
      | ownE _ _ ao cap=>simp only [List.take_zero]; exact .lstE u _ _
      | own _ _ _ cap l' hl' e1 e2 e3 =>
        rw [hl] at hl'; cases hl'
        by_cases hl0:len=0
        · subst hl0; simp only [List.take_zero]; exact .lstE u _ _
        · have hn : l.n ≠ 0 := by
            have:0 < (lo+cap) * l.s:=Nat.mul_pos (by omega) (by omega)
            omega
          obtain ⟨_,_,cc,hh,h5,h6⟩:=h4 hn
          have hlen:((xs.drop lo).take len).length=len:=by simp; omega
          have hget:∀ (i:Nat) x,((xs.drop lo).take len)[i]? = some x→xs[lo+i]? = some x:=fun i x hi=>by
            rw [List.getElem?_take] at hi
            split at hi
            · rw [List.getElem?_drop] at hi; exact hi
            · cases hi
          have:=Rel.lst (E:=X.E) (S:=Sa) (ρ:=ρ0) (w:=w) u ((xs.drop lo).take len) l.b (lo * l.s) cap (fun i j=>(cc[(lo+i) * X.E.sz u+j]?).getD undef) (hown _ _ _ (hs _ _ hg) hl hn) (by rw [hlen]; exact e2)
            (fun i x j c hi hj=>by
              obtain ⟨vv,hv,_⟩:=h6 (lo+i) x j c (hget i x hi) hj
              rw [h1,← Nat.add_mul,cell_of_row w l.b _ cc _ (0,0) hh,hv]; rfl)
            (fun i x j c hi hj=>by
              obtain ⟨vv,hv,hrv⟩:=h6 (lo+i) x j c (hget i x hi) hj
              rw [hv]
              exact hrv.to hX hS (hX.u.cell u x c (List.mem_of_getElem? hj)))
          rw [hlen] at this
          exact this
    · cases hc
  · split at hc
    · cases hc; cases hr; exact .lstE _ _ _
    · cases hc; cases hr; exact .nils
  · cases hc; cases hr; exact .bool _
  · cases hc; cases hr; exact .int _ _
  · cases hc; cases hr; exact .str _
  · cases hc; cases hr; exact .nilp
  · cases hc; cases hr; exact .nili
  · cases hc; cases hr; exact .nilf
  · cases hc; cases hr; exact .nilm
  · cases hc; cases hr; exact .err _ _
  · cases hc; exact hr.to hX hS rfl
  · cases hc
    cases hr with
    | pel _ _ _ _ b o cap hl hi=>exact .pel _ _ _ _ b o cap (hl.to hX hS rfl) hi
  · cases hc; exact hr.to hX hS rfl
  · rename_i id
    split at hc
    · rename_i u v es hg
      cases hc
      have hown:=ho.resolve_left (by simp [AV.plain,AV.cell])
      obtain ⟨l,hl,h1,h2,h3,ents,clock,h4,h5,h6⟩:=hH.get _ _ (hs _ _ hg)
      cases hr with
      | mp _ l' hl' =>
        rw [hl] at hl'; cases hl'
        exact .fmp u v es l.b ents clock (hown _ _ _ (hs _ _ hg) hl (by omega)) h4 h5 (fun i e p hi hp=>⟨(h6 i e p hi hp).1.fit.1,(h6 i e p hi hp).2.fit.1⟩)
          (fun i e p j c x hi hp hc hx=>((h6 i e p hi hp).1.fit.2 j c x hc hx).to hX hS (hX.u.cell u p.1 c (List.mem_of_getElem? hc)))
          (fun i e p j c x hi hp hc hx=>((h6 i e p hi hp).2.fit.2 j c x hc hx).to hX hS (hX.u.cell v p.2 c (List.mem_of_getElem? hc)))
    · cases hc
  · cases hc
theorem toArgs1_rel (hX : CtxOk P X) (hH : HRel X.E S ρ w B H) (hs : ∀ id b, hget h id = some b → hget H id = some b) (hS : ∀ b, S b → Sa b) : ∀ (cs ds : List (AV U El)), toArgs1 X h cs = some ds → (cs.all AV.cell = true ∨ OwnIn H ρ Sa) →
    ds.length=cs.length∧∀ (i:Nat) c' v,ds[i]? = some c'→(∀ c,cs[i]? = some c→Rel X.E S ρ w c v)→Rel X.E Sa ρ0 w c' v:=by
  intro cs
  induction cs with
  | nil=>intro ds h _; simp [toArgs1] at h; subst h; simp
  | cons c cs ih =>
    intro ds hd ho
    simp only [toArgs1] at hd
    split at hd
    · rename_i d' hd'
      split at hd
      · rename_i ds' hds'
        cases hd
        obtain ⟨e1,e2⟩:=ih ds' hds' (ho.imp (fun e=>by simp at e ⊢; exact e.2) id)
        refine ⟨by simp [e1],fun i c' v hi hr => ?_⟩
        cases i with
        | zero =>
          simp at hi
          subst hi
          exact toArg1_rel hX hH hs hS (hr c rfl) hd' (ho.imp (fun e=>by simp at e; exact cell_plain e.1) id)
        | succ i=>exact e2 i c' v (by simpa using hi) (fun c hc=>hr c (by simpa using hc))
      · cases hd
    · cases hd
theorem toArg2_rel (hX : CtxOk P X) (hH : HRel X.E S ρ w B H) (hs : ∀ id b, hget h id = some b → hget H id = some b) (hS : ∀ b, S b → Sa b) {td : Option (TD U)} {c c' : AV U El} {v : Value} (hr : Rel X.E S ρ w c v) (hc : toArg2 X h td c = some c') (ho : c.plain = true ∨ OwnIn H ρ Sa) : Rel X.E Sa ρ0 w c' v := by
  unfold toArg2 at hc
  split at hc
  · rename_i cs
    split at hc
    · rename_i ds hds
      cases hc
      obtain ⟨e1,e2⟩:=toArgs1_rel (ρ0:=ρ0) hX hH hs hS cs ds hds (ho.imp (fun e=>e) id)
      cases hr with
      | agg _ vs hl hrel=>exact .agg _ _ (by rw [hl,e1]) fun i c' v hi hv=>e2 i c' v hi (fun c hc=>hrel i c v hc hv)
    · cases hc
  · rename_i id off
    split at hc
    · rename_i cs hg
      split at hc
      · rename_i ds hds
        cases hc
        have hown:=ho.resolve_left (by simp [AV.plain,AV.cell])
        obtain ⟨e1,e2⟩:=toArgs1_rel (ρ0:=ρ0) hX hH hs hS cs ds hds (.inr hown)
        obtain ⟨l,hl,_,h1,h2⟩:=hH.get _ _ (hs _ _ hg)
        cases hr with
        | ptr _ _ l' hl' =>
          rw [hl] at hl'; cases hl'
          by_cases hn:l.n=0
          · have : ds = [] := List.eq_nil_of_length_eq_zero (by omega)
            subst this
            have:=Rel.pcs (E:=X.E) (S:=Sa) (ρ:=ρ0) (w:=w) [] off l.b 0 (fun _=>undef) (fun h=>absurd rfl h) (by simp) (by simp)
            rwa [Nat.zero_add] at this
          · obtain ⟨_, _, cc, e, hh, h3, h4⟩ := h2 hn
            have:=Rel.pcs (E:=X.E) (S:=Sa) (ρ:=ρ0) (w:=w) ds off l.b 0 (fun j=>(cc[j]?).getD undef) (fun _=>hown _ _ _ (hs _ _ hg) hl hn)
              (fun j c' hj=>by
                have hjc:j < cs.length:=by rw [← e1]; exact (List.getElem?_eq_some_iff.1 hj).1
                obtain ⟨vv,hv,_⟩:=h4 j _ (List.getElem?_eq_getElem hjc)
                rw [Nat.zero_add,cell_of_row w l.b _ cc _ (0,0) hh,hv]; rfl)
              (fun j c' hj=>by
                have hjc:j < cs.length:=by rw [← e1]; exact (List.getElem?_eq_some_iff.1 hj).1
                obtain ⟨vv,hv,hrv⟩:=h4 j _ (List.getElem?_eq_getElem hjc)
                rw [hv]
                exact e2 j c' _ hj (fun c hc=>by rw [List.getElem?_eq_getElem hjc] at hc; cases hc; exact hrv))
            rwa [Nat.zero_add] at this
      · cases hc
    · cases hc
  · rename_i cs off
    split at hc
    · rename_i ds hds
      cases hc
      have hown:=ho.resolve_left (by simp [AV.plain,AV.cell])
      obtain ⟨e1,e2⟩:=toArgs1_rel (ρ0:=ρ0) hX hH hs hS cs ds hds (.inr hown)
      cases hr with
      | pcs _ _ b o val hS' hcell hrel =>
        refine .pcs ds off b o val (fun hn=>hS _ (hS' (by rintro rfl; exact hn (List.eq_nil_of_length_eq_zero (by simpa using e1))))) (fun j c' hj => ?_) (fun j c' hj=>e2 j c' _ hj (fun c hc=>hrel j c hc))
        have hjc:j < cs.length:=by rw [← e1]; exact (List.getElem?_eq_some_iff.1 hj).1
        exact hcell j _ (List.getElem?_eq_getElem hjc)
    · cases hc
  · exact toArg1_rel hX hH hs hS hr hc ho
theorem toArgs2_rel (hX : CtxOk P X) (hH : HRel X.E S ρ w B H) (hs : ∀ id b, hget h id = some b → hget H id = some b) (hS : ∀ b, S b → Sa b) : ∀ (cs ds : List (AV U El)), toArgs2 X h cs = some ds → (cs.all AV.plain = true ∨ OwnIn H ρ Sa) →
    ds.length=cs.length∧∀ (i:Nat) c' v,ds[i]? = some c'→(∀ c,cs[i]? = some c→Rel X.E S ρ w c v)→Rel X.E Sa ρ0 w c' v:=by
  intro cs
  induction cs with
  | nil=>intro ds h _; simp [toArgs2] at h; subst h; simp
  | cons c cs ih =>
    intro ds hd ho
    simp only [toArgs2] at hd
    split at hd
    · rename_i d' hd'
      split at hd
      · rename_i ds' hds'
        cases hd
        obtain ⟨e1,e2⟩:=ih ds' hds' (ho.imp (fun e=>by simp at e ⊢; exact e.2) id)
        refine ⟨by simp [e1],fun i c' v hi hr => ?_⟩
        cases i with
        | zero =>
          simp at hi
          subst hi
          exact toArg2_rel hX hH hs hS (hr c rfl) hd' (ho.imp (fun e=>by simp at e; exact e.1) id)
        | succ i=>exact e2 i c' v (by simpa using hi) (fun c hc=>hr c (by simpa using hc))
      · cases hd
    · cases hd
theorem toArg3_rel (hX : CtxOk P X) (hH : HRel X.E S ρ w B H) (hs : ∀ id b, hget h id = some b → hget H id = some b) (hS : ∀ b, S b → Sa b) {td : Option (TD U)} {c c' : AV U El} {v : Value} (hr : Rel X.E S ρ w c v) (hc : toArg3 X h td c = some c') (ho : c.plain = true ∨ OwnIn H ρ Sa) : Rel X.E Sa ρ0 w c' v := by
  unfold toArg3 at hc
  split at hc
  · rename_i id off
    split at hc
    · rename_i cs hg
      split at hc
      · rename_i ds hds
        cases hc
        have hown:=ho.resolve_left (by simp [AV.plain,AV.cell])
        obtain ⟨e1,e2⟩:=toArgs2_rel (ρ0:=ρ0) hX hH hs hS cs ds hds (.inr hown)
        obtain ⟨l,hl,_,h1,h2⟩:=hH.get _ _ (hs _ _ hg)
        cases hr with
        | ptr _ _ l' hl' =>
          rw [hl] at hl'; cases hl'
          by_cases hn:l.n=0
          · have : ds = [] := List.eq_nil_of_length_eq_zero (by omega)
            subst this
            have:=Rel.pcs (E:=X.E) (S:=Sa) (ρ:=ρ0) (w:=w) [] off l.b 0 (fun _=>undef) (fun h=>absurd rfl h) (by simp) (by simp)
            rwa [Nat.zero_add] at this
          · obtain ⟨_, _, cc, e, hh, h3, h4⟩ := h2 hn
            have:=Rel.pcs (E:=X.E) (S:=Sa) (ρ:=ρ0) (w:=w) ds off l.b 0 (fun j=>(cc[j]?).getD undef) (fun _=>hown _ _ _ (hs _ _ hg) hl hn)
              (fun j c' hj=>by
                have hjc:j < cs.length:=by rw [← e1]; exact (List.getElem?_eq_some_iff.1 hj).1
                obtain ⟨vv,hv,_⟩:=h4 j _ (List.getElem?_eq_getElem hjc)
                rw [Nat.zero_add,cell_of_row w l.b _ cc _ (0,0) hh,hv]; rfl)
              (fun j c' hj=>by
                have hjc:j < cs.length:=by rw [← e1]; exact (List.getElem?_eq_some_iff.1 hj).1
                obtain ⟨vv,hv,hrv⟩:=h4 j _ (List.getElem?_eq_getElem hjc)
                rw [hv]
                exact e2 j c' _ hj (fun c hc=>by rw [List.getElem?_eq_getElem hjc] at hc; cases hc; exact hrv))
            rwa [Nat.zero_add] at this
      · cases hc
    · cases hc
  · rename_i cs off
    split at hc
    · rename_i ds hds
      cases hc
      have hown:=ho.resolve_left (by simp [AV.plain,AV.cell])
      obtain ⟨e1,e2⟩:=toArgs2_rel (ρ0:=ρ0) hX hH hs hS cs ds hds (.inr hown)
      cases hr with
      | pcs _ _ b o val hS' hcell hrel =>
        refine .pcs ds off b o val (fun hn=>hS _ (hS' (by rintro rfl; exact hn (List.eq_nil_of_length_eq_zero (by simpa using e1))))) (fun j c' hj => ?_) (fun j c' hj=>e2 j c' _ hj (fun c hc=>hrel j c hc))
        have hjc:j < cs.length:=by rw [← e1]; exact (List.getElem?_eq_some_iff.1 hj).1
        exact hcell j _ (List.getElem?_eq_getElem hjc)
    · cases hc
  · exact toArg2_rel hX hH hs hS hr hc ho
theorem toArgs3_rel (hX : CtxOk P X) (hH : HRel X.E S ρ w B H) (hs : ∀ id b, hget h id = some b → hget H id = some b) (hS : ∀ b, S b → Sa b) : ∀ (cs ds : List (AV U El)), toArgs3 X h cs = some ds → (cs.all AV.plain = true ∨ OwnIn H ρ Sa) →
    ds.length=cs.length∧∀ (i:Nat) c' v,ds[i]? = some c'→(∀ c,cs[i]? = some c→Rel X.E S ρ w c v)→Rel X.E Sa ρ0 w c' v:=by
  intro cs
  induction cs with
  | nil=>intro ds h _; simp [toArgs3] at h; subst h; simp
  | cons c cs ih =>
    intro ds hd ho
    simp only [toArgs3] at hd
    split at hd
    · rename_i d' hd'
      split at hd
      · rename_i ds' hds'
        cases hd
        obtain ⟨e1,e2⟩:=ih ds' hds' (ho.imp (fun e=>by simp at e ⊢; exact e.2) id)
        refine ⟨by simp [e1],fun i c' v hi hr => ?_⟩
        cases i with
        | zero =>
          simp at hi
          subst hi
          exact toArg3_rel hX hH hs hS (hr c rfl) hd' (ho.imp (fun e=>by simp at e; exact e.1) id)
        | succ i=>exact e2 i c' v (by simpa using hi) (fun c hc=>hr c (by simpa using hc))
      · cases hd
    · cases hd
theorem toArg_rel (hX : CtxOk P X) (hH : HRel X.E S ρ w B H) (hs : ∀ id b, hget h id = some b → hget H id = some b) (hS : ∀ b, S b → Sa b) {td : Option (TD U)} {c c' : AV U El} {v : Value} (hr : Rel X.E S ρ w c v) (hc : toArg X h td c = some c') (ho : c.plain = true ∨ OwnIn H ρ Sa) : Rel X.E Sa ρ0 w c' v := by
  unfold toArg at hc
  split at hc
  · rename_i f as bs
    split at hc
    · rename_i as' has
      split at hc
      · rename_i bs' hbs
        cases hc
        obtain ⟨e1,e2⟩:=toArgs3_rel (ρ0:=ρ0) hX hH hs hS as as' has (ho.imp (fun e=>by simp [AV.plain] at e; simp [e.1]) id)
        obtain ⟨f1,f2⟩:=toArgs3_rel (ρ0:=ρ0) hX hH hs hS bs bs' hbs (ho.imp (fun e=>by simp [AV.plain] at e; simp [e.2]) id)
        cases hr with
        | fn _ _ _ vf vc hlf hlc hf hc=>exact .fn _ _ _ _ _ (by rw [hlf,e1]) (by rw [hlc,f1]) (fun i c' v hi hv=>e2 i c' v hi (fun c hc=>hf i c v hc hv)) (fun i c' v hi hv=>f2 i c' v hi (fun c hc'=>hc i c v hc' hv))
      · cases hc
    · cases hc
  · exact toArg3_rel hX hH hs hS hr hc ho
theorem toArgs_rel (hX : CtxOk P X) (hH : HRel X.E S ρ w B H) (hs : ∀ id b, hget h id = some b → hget H id = some b) (hS : ∀ b, S b → Sa b) : ∀ (cs ds : List (AV U El)) (ts : List TypeId), toArgs X h cs ts = some ds → (cs.all AV.plain = true ∨ OwnIn H ρ Sa) →
    ds.length=cs.length∧∀ (i:Nat) c' v,ds[i]? = some c'→(∀ c,cs[i]? = some c→Rel X.E S ρ w c v)→Rel X.E Sa ρ0 w c' v:=by
  intro cs
  induction cs with
  | nil=>intro ds ts h _; simp [toArgs] at h; subst h; simp
  | cons c cs ih =>
    intro ds ts hd ho
    simp only [toArgs] at hd
    split at hd
    · rename_i d' hd'
      split at hd
      · rename_i ds' hds'
        cases hd
        obtain ⟨e1,e2⟩:=ih ds' _ hds' (ho.imp (fun e=>by simp at e ⊢; exact e.2) id)
        refine ⟨by simp [e1],fun i c' v hi hr => ?_⟩
        cases i with
        | zero =>
          simp at hi
          subst hi
          exact toArg_rel hX hH hs hS (hr c rfl) hd' (ho.imp (fun e=>by simp at e; exact e.1) id)
        | succ i=>exact e2 i c' v (by simpa using hi) (fun c hc=>hr c (by simpa using hc))
      · cases hd
    · cases hd
theorem res1_rel {ok : AV U El → Bool} (hSS : (∃ c, ok c = true ∧ c.cellF = false) → ∀ b, S1 b → S' b) (hok : ∀ c v, ok c = true → Rel X.E S1 ρ1 w' c v → Rel X.E S' ρ' w' c v) (hcell : ∀ c, ok c = true → c.cell = true) (hρ : ∀ id l, id < 4 → ρ1 id = some l → ρ' (d * 1000 + id) = some l) {c : AV U El} {v : Value} (hc : c.resG1 ok = true) (hr : Rel X.E S1 ρ1 w' c v) : Rel X.E S' ρ' w' (rename d c) v := by
  unfold AV.resG1 at hc
  split at hc
  · rename_i id
    have hid:id < 4:=Nat.le_of_ble_eq_true hc
    cases hr with
    | ful _ cap l hl h1 h2=>exact .ful _ cap l (hρ _ _ hid hl) h1 h2
    | fulN _ l hl h1 h2=>exact .fulN _ l (hρ _ _ hid hl) h1 h2
  · rename_i cs
    cases hr with
    | agg _ vs hl hrel =>
      refine .agg _ _ (by simpa using hl) fun i c v hi hv => ?_
      simp only [List.getElem?_map,Option.map_eq_some_iff] at hi
      obtain ⟨c0,hc0,rfl⟩:=hi
      have hr0:=hrel i c0 v hc0 hv
      have hc1:=List.all_eq_true.1 hc c0 (List.mem_of_getElem? hc0)
      cases hk:ok c0 with
      | true =>
        have he:rename0 d c0=c0:=by
          have:=hcell c0 hk
          cases c0<;>first | rfl | (simp [AV.cell] at this)
        rw [he]
        exact hok c0 v hk hr0
      | false =>
        rw [hk,Bool.false_or] at hc1
        split at hc1
        · rename_i id
          have hid:id < 4:=Nat.le_of_ble_eq_true hc1
          cases hr0 with
          | ful _ cap l hl h1 h2=>exact .ful _ cap l (hρ _ _ hid hl) h1 h2
          | fulN _ l hl h1 h2=>exact .fulN _ l (hρ _ _ hid hl) h1 h2
        · cases hc1
  · rename_i f cs off
    simp only [Bool.and_eq_true,Bool.not_eq_true'] at hc
    have hSS':∀ b,S1 b→S' b:=hSS (by
      obtain ⟨c,hm,hcf⟩:=List.all_eq_false.1 hc.2
      exact ⟨c,List.all_eq_true.1 hc.1 c hm,by simpa using hcf⟩)
    have he:rename d (.fn f [] [.pcs cs off]:AV U El) = .fn f [] [.pcs cs off]:=rfl
    rw [he]
    cases hr with
    | fn _ _ _ vf vc hlf hlc hf hc' =>
      refine .fn f [] _ vf vc hlf hlc (fun i c v h=>by cases h) fun i c v hi hv => ?_
      have h2:=hc' i c v hi hv
      match i,hi with
      | 0, hi =>
        cases hi
        cases h2 with
        | pcs _ _ b o val hb hcl h=>exact .pcs cs off b o val (fun hn=>hSS' b (hb hn)) hcl fun j c hj=>hok c _ (List.all_eq_true.1 hc.1 c (List.mem_of_getElem? hj)) (h j c hj)
  · rename_i h1 h2 h3
    have he:rename d c=c:=by
      unfold rename
      split
      · exact absurd rfl (h1 _)
      · exact absurd rfl (h2 _)
      · rfl
    rw [he]
    exact hok c v hc hr
theorem res_rel {ok:AV U El→Bool} (hSS:(∃ c,ok c=true∧c.cellF=false)→∀ b,S1 b→S' b) (hok:∀ c v,ok c=true→Rel X.E S1 ρ1 w' c v→Rel X.E S' ρ' w' c v) (hcell:∀ c,ok c=true→c.cell=true) (hρ:∀ id l,id < 4→ρ1 id=some l→ρ' (d * 1000+id)=some l) {c:AV U El} {v:Value} (hc:c.resG ok=true) (hr:Rel X.E S1 ρ1 w' c v):Rel X.E S' ρ' w' (renameR d c) v:=by
  unfold AV.resG at hc
  split at hc
  · rename_i cs
    cases hr with
    | tup _ vs hl hrel =>
      refine .tup _ _ (by simpa using hl) fun i c v hi hv => ?_
      simp only [List.getElem?_map,Option.map_eq_some_iff] at hi
      obtain ⟨c0,hc0,rfl⟩:=hi
      exact res1_rel hSS hok hcell hρ (by simp at hc; exact hc c0 (List.mem_of_getElem? hc0)) (hrel i c0 v hc0 hv)
  · rename_i h1
    have he:renameR d c=rename d c:=by
      unfold renameR
      split
      · exact absurd rfl (h1 _)
      · rfl
    rw [he]
    exact res1_rel hSS hok hcell hρ hc hr
theorem renameH_get {ex:Heap U El} {j:Nat} {b:Blk U El} (h:hget (renameH d ex) j=some b):∃ id,j=d * 1000+id∧hget ex id=some b:=by
  induction ex with
  | nil=>simp [renameH,hget] at h
  | cons p ex ih =>
    obtain ⟨i,c⟩:=p
    simp only [renameH,hget] at h
    by_cases e:d * 1000+i=j
    · subst e
      refine ⟨i,rfl,?_⟩
      simp only [hget]
      rw [Nat.beq_refl] at h ⊢
      exact h
    · rw [nbeq_ne e] at h
      obtain ⟨id,h1,h2⟩:=ih h
      refine ⟨id,h1,?_⟩
      have:i≠id:=by omega
      simp only [hget,nbeq_ne this]
      exact h2
theorem rows_of {ex:Heap U El} (h:rowsH ex=true) {id:Nat} {b:Blk U El} (hg:hget ex id=some b):∃ u xs,b = .rows u xs:=by
  induction ex with
  | nil=>cases hg
  | cons p ex ih =>
    obtain ⟨i,c⟩:=p
    cases c with
    | box t cs=>simp [rowsH] at h
    | map u v es=>simp [rowsH] at h
    | amap u ks cs=>simp [rowsH] at h
    | bld T j=>simp [rowsH] at h
    | rows u xs =>
      simp only [rowsH] at h
      simp only [hget] at hg
      cases e:Nat.beq i id with
      | true=>rw [e] at hg; cases hg; exact ⟨_,_,rfl⟩
      | false=>rw [e] at hg; exact ih h hg
theorem flat_of {ex:Heap U El} (h:flatH X.E ex=true) {id:Nat} {u:U} {xs:List (El u)} (hg:hget ex id=some (.rows u xs)):X.E.fl u=true:=by
  induction ex with
  | nil=>cases hg
  | cons p ex ih =>
    obtain ⟨i,c⟩:=p
    cases c with
    | box t cs=>simp [flatH] at h
    | map u v es=>simp [flatH] at h
    | amap u ks cs=>simp [flatH] at h
    | bld T j=>simp [flatH] at h
    | rows u xs =>
      simp only [flatH,Bool.and_eq_true] at h
      simp only [hget] at hg
      cases e:Nat.beq i id with
      | true=>rw [e] at hg; cases hg; exact h.1
      | false=>rw [e] at hg; exact ih h.2 hg
theorem callIds_mem {j d:Nat}:j∈callIds d↔∃ i,i < 4∧j=d * 1000+i:=by
  unfold callIds
  constructor
  · intro h
    rcases List.mem_cons.1 h with e | h
    · exact ⟨0,by decide,e⟩
    rcases List.mem_cons.1 h with e | h
    · exact ⟨1,by decide,e⟩
    rcases List.mem_cons.1 h with e | h
    · exact ⟨2,by decide,e⟩
    rcases List.mem_cons.1 h with e | h
    · exact ⟨3,by decide,e⟩
    · cases h
  · rintro ⟨i, h, rfl⟩
    match i,h with
    | 0,_=>exact List.mem_cons_self
    | 1,_=>exact List.mem_cons_of_mem _ List.mem_cons_self
    | 2,_=>exact List.mem_cons_of_mem _ (List.mem_cons_of_mem _ List.mem_cons_self)
    | 3,_=>exact List.mem_cons_of_mem _ (List.mem_cons_of_mem _ (List.mem_cons_of_mem _ List.mem_cons_self))
theorem call_fin {Sx:Nat→Prop} {ok:AV U El→Bool} (hSS:(∃ c,ok c=true∧c.cellF=false)→∀ b,S1 b→S' b) {res:AV U El} {ex:Heap U El} {v:Value} {f:Operand} {as:Array Operand} {ts:Array TypeId} (ho:o.op = .call ⟨.value f,as,ts⟩) (hX:CtxOk P X) (hokc:∀ c,ok c=true→c.cell=true) (hok:∀ c v ρ'',ok c=true→Rel X.E S1 ρ1 w' c v→Rel X.E S' ρ'' w' c v)
    (hst:Step Sx (fun _=>none) w S1 ρ1 w') (hlt:∀ b,S b→b < w.heap.size) (s1:∀ b,S b→S' b) (s2:∀ b,S' b→S b∨w.heap.size≤b) (hlt':∀ b,S' b→b < w'.heap.size) (hns:∀ b,w.heap.size≤b→¬ S1 b→¬ S' b)
    (hhr:HRel X.E S1 ρ1 w' (From w) ex) (hid:∀ id b,hget ex id=some b→id < 4) (hrows:rowsH ex=true) (henc:∀ id u xs,hget ex id=some (.rows u xs)→∀ x c,c∈X.E.enc u x→ok c=true) (hres:res.resG ok=true) (hrr:Rel X.E S1 ρ1 w' res v) (hd:∀ j∈callIds d,ρ j=none)
    {next:Act→World→Prop} (hn:∀ v w' S' ρ',Step S ρ w S' ρ' w'→Rel X.E S' ρ' w' (renameR d res) v→HRel X.E S' ρ' w' (From w) (renameH d ex)→(∀ id b,hget (renameH d ex) id=some b→id∈newIds o d)→(∀ id,id ∉ newIds o d→ρ' id=ρ id)→next (a.put o.dst v) w'):next (a.put o.dst v) w':=by
  have hni:newIds o d=callIds d:=by simp [newIds,ho]
  have hρ1:∀ id l,id < 4→ρ1 id=some l→(fun j=>if j∈callIds d then ρ1 (j - d * 1000) else ρ j) (d * 1000+id)=some l:=fun id l h e=>by
    have:d * 1000+id∈callIds d:=callIds_mem.2 ⟨id,h,rfl⟩
    simp only [if_pos this]
    rw [show d * 1000+id - d * 1000=id by omega]
    exact e
  refine hn v w' S' (fun j=>if j∈callIds d then ρ1 (j - d * 1000) else ρ j) ⟨hst.fr,s1,s2,fun id l e => ?_,hlt⟩ (res_rel hSS (fun c v h1 h2=>hok c v _ h1 h2) hokc hρ1 hres hrr) ⟨fun j b hg => ?_,fun i j b b' l l' hi hj hne hli hlj hn hn' => ?_,hlt'⟩ (fun id b hg => ?_) (fun id hi => ?_)
  · have : id ∉ callIds d := fun h => by rw [hd id h] at e; cases e
    simp only [if_neg this]
    exact e
  · obtain ⟨id, rfl, hge⟩ := renameH_get hg
    obtain ⟨u,xs,rfl⟩:=rows_of hrows hge
    obtain ⟨l,hl,h1,h2,h3,h4⟩:=hhr.get _ _ hge
    refine ⟨l,hρ1 id l (hid _ _ hge) hl,h1,h2,h3,fun hn => ?_⟩
    obtain ⟨h5,h6,c,hh,h7,h8⟩:=h4 hn
    refine ⟨h5,hns _ h5 h6,c,hh,h7,fun i x j a hi hj => ?_⟩
    obtain ⟨vv,hv,hr⟩:=h8 i x j a hi hj
    exact ⟨vv,hv,hok a vv _ (henc id u xs hge x a (List.mem_of_getElem? hj)) hr⟩
  · obtain ⟨id, rfl, hge⟩ := renameH_get hi
    obtain ⟨id',rfl,hge'⟩:=renameH_get hj
    have e1:=hid _ _ hge
    have e2:=hid _ _ hge'
    obtain ⟨l1,hl1,_⟩:=hhr.get _ _ hge
    obtain ⟨l2,hl2,_⟩:=hhr.get _ _ hge'
    have k1:some l1=some l:=(hρ1 id l1 e1 hl1).symm.trans hli
    have k2:some l2=some l':=(hρ1 id' l2 e2 hl2).symm.trans hlj
    cases k1; cases k2
    exact hhr.inj id id' b b' _ _ hge hge' (fun e=>hne (by rw [e])) hl1 hl2 hn hn'
  · obtain ⟨i, rfl, hge⟩ := renameH_get hg
    rw [hni]
    exact callIds_mem.2 ⟨i,hid _ _ hge,rfl⟩
  · rw [hni] at hi
    simp only [if_neg hi]
theorem cellF_cell {c:AV U El} (h:c.cellF=true):c.cell=true:=by
  cases c<;>first | rfl | (simp [AV.cellF,AV.cell] at h; done)
theorem cellF_flat {c:AV U El} (h:c.cellF=true):c.flat=true:=by
  cases c<;>first | rfl | (simp [AV.cellF,AV.cell] at h; done)
theorem cellF_of {c:AV U El} (h:c.cell=true) (hf:c.flat=true):c.cellF=true:=by
  cases c<;>first | rfl | (simp [AV.cell] at h; done) | (simp [AV.flat] at hf; done)
theorem op_call {f : Operand} {as : Array Operand} {ts : Array TypeId} {k : Out U El → Option (Fin U El)} (hX : CtxOk P X) (ho : o.op = .call ⟨.value f, as, ts⟩)
    (hv:evalOp X o t h d k=some r) (hT:TRel X.E S ρ w o t a) (hH:HRel X.E S ρ w B H) (hs:∀ id b,hget h id=some b→hget H id=some b) (hd:∀ j∈callIds d,ρ j=none) (hG:X.E.G w):∃ out,k out=some r∧OpDone P X.E S ρ w o a d out:=by
  have hf:=hT.get (x:=f) (by simp [ho,Op.operands,Call.operands])
  have hargs:∀ x∈as,Rel X.E S ρ w (oget t x) (a.eval x):=fun x hx=>hT.get (by simp [ho,Op.operands,Call.operands]; exact .inr hx)
  simp only [evalOp,ho] at hv
  split at hv
  · rename_i g first caps hfe
    rw [hfe] at hf
    generalize hq:a.eval f=q at hf
    cases hf with
    | fn _ _ _ vf vc hlf hlc hrf hrc =>
      split at hv
      · rename_i vs hvs
        obtain ⟨res,ex,⟨hcall,hid,hspec⟩,hv1⟩:=hX.spec _ _ _ _ hv
        obtain ⟨hck,hv2⟩:=chk_some hv1
        refine ⟨_,hv2,?_⟩
        simp only [Bool.and_eq_true,Bool.or_eq_true] at hck
        obtain ⟨⟨hres,hrows⟩,hmode⟩:=hck
        have hrun:(execOp a.eval o).run P w = .ok (.enter g (vf++as.map a.eval++vc)) w:=by
          simp [execOp,ho,resolve,Deferred.ofValue,hq,invoke,hcall]
        have hraw:(vf++as.map a.eval++vc).size=(first++as.toList.map (oget t)++caps).length∧∀ (i:Nat) c v,(first++as.toList.map (oget t)++caps)[i]? = some c→(vf++as.map a.eval++vc)[i]? = some v→Rel X.E S ρ w c v:=by
          refine ⟨by simp [hlf,hlc],fun i c v hc hv => ?_⟩
          have hv':(vf.toList++as.toList.map a.eval++vc.toList)[i]? = some v:=by
            rw [← Array.getElem?_toList] at hv; simpa using hv
          by_cases h1:i < first.length+as.size
          · rw [List.getElem?_append_left (by simp; omega)] at hc
            rw [List.getElem?_append_left (by simp; omega)] at hv'
            by_cases h2:i < first.length
            · rw [List.getElem?_append_left h2] at hc
              rw [List.getElem?_append_left (by simp; omega)] at hv'
              exact hrf i c v hc (by simpa using hv')
            · rw [List.getElem?_append_right (by omega)] at hc
              rw [List.getElem?_append_right (by simp; omega)] at hv'
              simp only [List.getElem?_map,Option.map_eq_some_iff,Array.length_toList,hlf] at hc hv'
              obtain ⟨x,hx,rfl⟩:=hc
              obtain ⟨y,hy,rfl⟩:=hv'
              rw [hx] at hy; cases hy
              exact hargs x (by simpa using List.mem_of_getElem? hx)
          · rw [List.getElem?_append_right (by simp; omega)] at hc
            rw [List.getElem?_append_right (by simp; omega)] at hv'
            simp only [List.length_append,List.length_map,Array.length_toList,hlf] at hc hv'
            exact hrc _ c v hc (by simpa using hv')
        have base:∀ (Sa:Nat→Prop),(∀ b,S b→Sa b)→((first++as.toList.map (oget t)++caps).all AV.plain=true∨OwnIn H ρ Sa)→RelL X.E Sa (fun _=>none) w vs (vf++as.map a.eval++vc):=by
          intro Sa hSa hown
          obtain ⟨e1,e2⟩:=toArgs_rel (ρ0:=fun _=>none) hX hH hs hSa _ _ _ hvs hown
          refine ⟨by rw [hraw.1,e1],fun i c' v hc hv=>e2 i c' v hc (fun c hc'=>hraw.2 i c v hc' hv)⟩
        intro next Q hn
        unfold Oper.wp
        rw [hrun]
        show Calls P g _ w _
        rcases hmode with ⟨hm1,hm2⟩ | hm
        · have hown : OwnIn H ρ (fun b => b < w.heap.size) := fun id b l h1 h2 h3 => by
            obtain ⟨l',e1,e2⟩:=hH.get _ _ h1
            rw [h2] at e1; cases e1
            exact (e2.lt h3).1
          refine (hspec (fun b=>b < w.heap.size) w _ (fun _ h=>h) hG (base _ hH.lt (.inr hown))).mono ?_
          rintro e w' ⟨v,S1,ρ1,rfl,hst,hhr,hrr⟩
          exact call_fin (S':=S) (ok:=AV.cellF) (fun ⟨c,h1,h2⟩=>by rw [h1] at h2; cases h2) ho hX (fun c=>cellF_cell) (fun c v ρ'' h1 h2=>(h2.flat (cellF_flat h1)).cellρ hX.u (cellF_cell h1)) hst hH.lt (fun _ h=>h) (fun _ h => .inl h) (fun b hb=>Nat.lt_of_lt_of_le (hH.lt b hb) hst.below.size) (fun b hb _ hs=>by have:=hH.lt b hs; omega) hhr hid hrows
            (fun id u xs hg x c hc=>cellF_of (hX.u.cell u x c hc) (hX.u.flat u (flat_of hm2 hg) x c hc)) hm1 hrr hd hn
        · refine (hspec S w _ hH.lt hG (base S (fun _ h => h) (.inl hm))).mono ?_
          rintro e w' ⟨v,S1,ρ1,rfl,hst,hhr,hrr⟩
          exact call_fin (S':=S1) (ok:=AV.cell) (fun _ _ h=>h) ho hX (fun c h=>h) (fun c v ρ'' h1 h2=>h2.cellρ hX.u h1) hst hH.lt hst.s1 hst.s2 hhr.lt (fun b hb h=>h) hhr hid hrows
            (fun id u xs hg x c hc=>hX.u.cell u x c hc) hres hrr hd hn
      · cases hv
  · cases hv
theorem evalOp_sound {k : Out U El → Option (Fin U El)} (hX : CtxOk P X) (hv : evalOp X o t h d k = some r) (hT : TRel X.E S ρ w o t a) (hH : HRel X.E S ρ w B H) (hs : ∀ id b, hget h id = some b → hget H id = some b)
    (hd:∀ j∈newIds o d,ρ j=none) (hG:X.E.G w):∃ out,k out=some r∧OpDone P X.E S ρ w o a d out:=by
  have hlt:=hH.lt
  have hd1:newIds o d=[d]→ρ d=none:=fun e=>hd d (by rw [e]; simp)
  cases ho:o.op with
  | move x=>simp only [evalOp,ho] at hv; exact ⟨_,hv,op_move (.inl ho) hT hlt⟩
  | assign x=>simp only [evalOp,ho] at hv; exact ⟨_,hv,op_move (.inr ho) hT hlt⟩
  | pick c x y =>
    simp only [evalOp,ho] at hv
    split at hv
    · rename_i hc; exact ⟨_,hv,op_pick (b:=true) ho hc hT hlt⟩
    · rename_i hc; exact ⟨_,hv,op_pick (b:=false) ho hc hT hlt⟩
    · cases hv
  | alloc e =>
    simp only [evalOp,ho] at hv
    have hd1':ρ d=none:=hd d (by simp [newIds,ho])
    split at hv
    · rename_i u htd
      obtain ⟨h0,hv⟩:=chk_some hv
      exact ⟨_,hv,op_allocB hX ho htd (Nat.le_of_ble_eq_true h0) hlt hd1' (hd _ (by simp [newIds,ho]))⟩
    · split at hv
      · rename_i z hz
        split at hv
        · rename_i cs hcs; exact ⟨_,hv,op_alloc hX ho hz hcs hlt hd1'⟩
        · cases hv
      · cases hv
  | box e x =>
    simp only [evalOp,ho] at hv
    split at hv
    · rename_i cs hcs; exact ⟨_,hv,op_box ho hcs hT hlt (hd1 (by simp [newIds,ho]))⟩
    · cases hv
  | build ty ps=>exact op_build hX ho hv hT hlt
  | buildSlice ty n ps=>exact op_buildSlice hX ho hv hT hlt (hd1 (by simp [newIds,ho]))
  | load ty p =>
    simp only [evalOp,ho] at hv
    split at hv
    · rename_i td htd
      split at hv
      · rename_i sz ag hag; exact op_load hX ho htd hag hv hT hH hs
      · cases hv
    · cases hv
  | nilCheck x =>
    simp only [evalOp,ho] at hv
    split at hv
    · rename_i e; exact ⟨_,hv,by rw [← e]; exact op_nilCheck ho (.inl ⟨_,_,e⟩) hT hlt⟩
    · rename_i e; exact ⟨_,hv,by rw [← e]; exact op_nilCheck ho (.inr (.inl ⟨_,_,_,e⟩)) hT hlt⟩
    · rename_i e; exact ⟨_,hv,by rw [← e]; exact op_nilCheck ho (.inr (.inr (.inl ⟨_,_,_,_,e⟩))) hT hlt⟩
    · rename_i e; exact ⟨_,hv,by rw [← e]; exact op_nilCheck ho (.inr (.inr (.inr ⟨_,_,e⟩))) hT hlt⟩
    · cases hv
  | binOp op ty x y yt =>
    simp only [evalOp,ho] at hv
    obtain ⟨hb,hv1⟩:=chk_some hv
    exact op_binOp hX ho hb hv1 hT hlt
  | unOp u ty x =>
    simp only [evalOp,ho] at hv
    split at hv
    · rename_i b hx; exact ⟨_,hv,op_unOp ho (.inl ⟨b,rfl,hx,rfl⟩) hT hlt⟩
    · rename_i kd n hx; exact ⟨_,hv,op_unOp ho (.inr ⟨kd,n,rfl,hx,rfl⟩) hT hlt⟩
    · cases hv
  | makeMap ty rs =>
    cases rs with
    | some y=>simp only [evalOp,ho] at hv; cases hv
    | none =>
      simp only [evalOp,ho] at hv
      split at hv
      · exact ⟨_,hv,op_makeMap ho hlt (hd1 (by simp [newIds,ho]))⟩
      · cases hv
  | lookup ty m ix ok =>
    simp only [evalOp,ho] at hv
    split at hv
    · rename_i u v id htd hm
      split at hv
      · rename_i u' v' es hg
        obtain ⟨hck,hv1⟩:=chk_some hv
        simp only [Bool.and_eq_true,decide_eq_true_eq] at hck
        obtain ⟨rfl,rfl,h3,h4⟩:=hck
        split at hv1
        · rename_i x hx; exact ⟨_,hv1,op_lookup hX ho htd hm hg h3 h4 hx hT hH hs⟩
        · cases hv1
      · cases hv
    · rename_i u v u' v' es htd hm
      obtain ⟨hck,hv1⟩:=chk_some hv
      simp only [Bool.and_eq_true,decide_eq_true_eq] at hck
      obtain ⟨rfl,rfl,h3,h4⟩:=hck
      split at hv1
      · rename_i x hx; exact ⟨_,hv1,op_lookupF hX ho htd hm h3 h4 hx hT hH⟩
      · cases hv1
    · cases hv
  | convert s ty x=>exact op_convert hX ho hv hT hlt
  | makeFunc fn as bs =>
    simp only [evalOp,ho] at hv
    cases fn with
    | func f=>exact ⟨_,hv,op_makeFunc ho hT hlt⟩
    | _=>cases hv
  | makeSlice ty n c=>exact op_makeSlice hX ho hv hT hlt (hd1 (by simp [newIds,ho]))
  | slice ty x lo hi mx =>
    cases mx with
    | none=>exact op_slice hX ho hv hT hH hs
    | some m=>simp only [evalOp,ho] at hv; cases hv
  | fieldAddr s p f =>
    simp only [evalOp,ho] at hv
    split at hv
    · rename_i fs sz htd
      split at hv
      · rename_i off fsz ag hf; exact op_fieldAddr hX ho htd hf hv hT hlt
      · cases hv
    · cases hv
  | field s x f =>
    simp only [evalOp,ho] at hv
    split at hv
    · rename_i fs sz htd
      split at hv
      · rename_i off fsz ag hf
        split at hv
        · rename_i cs hx; exact op_field hX ho htd hf hx hv hT hlt
        · cases hv
      · cases hv
    · cases hv
  | indexAddr ty x ix =>
    simp only [evalOp,ho] at hv
    split at hv
    · rename_i u kd i htd hix; exact op_indexSlice hX ho htd hix hv hT hH hs
    · rename_i n es ea sz kd i htd hix; exact op_indexArr hX ho htd hix hv hT hlt
    · cases hv
  | index ty x ix =>
    simp only [evalOp,ho] at hv
    split at hv
    · rename_i kd i htd hix
      split at hv
      · rename_i s hx; obtain ⟨hb,hv1⟩:=chk_some hv; exact ⟨_,hv1,op_indexStr hX ho htd hix hx hb hT hlt⟩
      · cases hv
    · rename_i n es ea sz kd i htd hix
      split at hv
      · rename_i cs hx; obtain ⟨hb,hv1⟩:=ixA_some hv; exact op_indexAgg hX ho htd hix hx hb hv1 hT hlt
      · cases hv
    · cases hv
  | extract x i =>
    simp only [evalOp,ho] at hv
    split at hv
    · rename_i cs hx
      split at hv
      · rename_i v hi; exact ⟨_,hv,op_extract ho hx hi hT hlt⟩
      · cases hv
    · cases hv
  | call c =>
    obtain ⟨callee,as,ts⟩:=c
    cases callee with
    | value f=>exact op_call hX ho hv hT hH hs (fun j hj=>hd j (by simpa [newIds,ho] using hj)) hG
    | invoke x m=>simp only [evalOp,ho] at hv; cases hv
    | builtin b =>
      cases b with
      | len =>
        simp only [evalOp,ho] at hv
        split at hv
        · rename_i x ty ts' has hts
          split at hv
          · rename_i n hn
            obtain ⟨hck,hv1⟩:=chk_some hv
            have h0:ts[0]? = some ty:=by rw [← Array.getElem?_toList,hts]; rfl
            by_cases hmp:∃ id,oget t x = .mp id
            · obtain ⟨id, hx⟩ := hmp
              rw [hx] at hck hn
              simp only [lenOf] at hn
              split at hn
              · rename_i u v es hg
                cases hn
                cases htd:tdGet X.tds ty with
                | none=>rw [htd] at hck; cases hck
                | some td=>rw [htd] at hck; cases td<;>first | exact ⟨_,hv1,op_lenM hX ho has hx hg h0 htd hT hH hs⟩ | cases hck
              · cases hn
            · refine ⟨_, hv1, op_len ho has hn (fun id e => hmp ⟨id, e⟩) ⟨ty, h0, ?_, ?_⟩ hT hH hs⟩
              · rintro ⟨s, hx⟩
                rw [hx] at hck
                cases htd:tdGet X.tds ty with
                | none=>rw [htd] at hck; cases hck
                | some td=>rw [htd] at hck; cases td<;>first | exact hX.td _ _ htd | cases hck
              · intro hns
                cases htd:tdGet X.tds ty with
                | none=>rw [htd] at hck; cases hck
                | some td =>
                  rw [htd] at hck
                  cases td<;>cases hx:oget t x<;>rw [hx] at hck<;>first | exact ⟨_,hX.td _ _ htd⟩ | exact absurd (show false=true from hck) (by decide) | exact (hns ⟨_,hx⟩).elim | exact (hmp ⟨_,hx⟩).elim
          · cases hv
        · cases hv
      | max =>
        simp only [evalOp,ho] at hv
        split at hv
        · rename_i x y has
          split at hv
          · rename_i ka m kb n hx hy; exact ⟨_,hv,by have:=op_maxmin (P:=P) (d:=d) (isMax:=true) (by simpa using ho) has hx hy hT hlt; simpa using this⟩
          · cases hv
        · cases hv
      | min =>
        simp only [evalOp,ho] at hv
        split at hv
        · rename_i x y has
          split at hv
          · rename_i ka m kb n hx hy; exact ⟨_,hv,by have:=op_maxmin (P:=P) (d:=d) (isMax:=false) (by simpa using ho) has hx hy hT hlt; simpa using this⟩
          · cases hv
        · cases hv
      | _=>simp only [evalOp,ho] at hv; cases hv
  | _=>simp only [evalOp,ho] at hv; cases hv
end
end Go.Proofs.Ytkeplmpcijigaaa
