/- States; the operations that change a block: store, append. -/
import Derived.Test.YtkeplmpcijigaaaLH
namespace Go.Proofs.Ytkeplmpcijigaaa
set_option linter.unusedVariables false
set_option linter.unusedSectionVars false
set_option linter.unusedSimpArgs false
open Go.RowKit
section
variable {U:Type} {El:U→Type} {P:Program} {X:Ctx U El} {S S0:Nat→Prop} {ρ:Rho} {w w0:World} [DecidableEq U] [Drw]
variable {o:Oper} {a:Act} {st:St U El} {B:Bd} {d:Nat} {r:Fin U El}
structure Inv (X:Ctx U El) (B:Bd) (S0:Nat→Prop) (w0:World) (S:Nat→Prop) (ρ:Rho) (st:St U El) (a:Act) (w:World):Prop where
  defers:a.defers=B.df
  size:a.tmps.size=X.nt
  below:Fr B w0 w
  hB:∀ k,w.heap.size≤k→B.own k
  s0:∀ b,S0 b→S b
  s1:∀ b,S b→S0 b∨B.own b
  g0:∀ w',Fr B w0 w'→X.E.G w'
  tmps:∀ i,Rel X.E S ρ w (tget st.t i) (a.tmps.getD i undef)
  heap:HRel X.E S ρ w B st.h
def StRel (X:Ctx U El) (B:Bd) (S0:Nat→Prop) (w0:World) (st:St U El) (a:Act) (w:World):Prop:=∃ S ρ,Inv X B S0 w0 S ρ st a w
theorem tget_kill (id:Nat) (t:Tmps U El) (i:Nat):tget (tkill id t) i=(tget t i).kill id:=by
  induction t with
  | nil=>rfl
  | cons p t ih =>
    obtain ⟨j,v⟩:=p
    simp only [tkill,tget]
    cases Nat.beq j i<;>simp [ih]
theorem hget_del (id:Nat) (h:Heap U El) (j:Nat):hget (hdel h id) j=if j=id then none else hget h j:=by
  induction h with
  | nil=>simp [hdel,hget]
  | cons p h ih =>
    obtain ⟨i,b⟩:=p
    simp only [hdel]
    by_cases e:i=id
    · subst e
      rw [Nat.beq_refl]
      simp only [cond,ih,hget]
      by_cases e2:j=i
      · simp [e2]
      · rw [if_neg e2,if_neg e2,nbeq_ne (Ne.symm e2)]
    · rw [nbeq_ne e]
      simp only [cond,hget,ih]
      by_cases e2:i=j
      · subst e2; rw [Nat.beq_refl]; simp [e]
      · rw [nbeq_ne e2]
theorem hget_kill (id:Nat) (h:Heap U El) (j:Nat):hget (hkill id h) j=(hget h j).map (Blk.kill id):=by
  induction h with
  | nil=>rfl
  | cons p h ih =>
    obtain ⟨i,b⟩:=p
    simp only [hkill,hget]
    cases Nat.beq i j<;>simp [ih]
theorem BlkRel.del {l:Loc} {b:Blk U El} (hX:CtxOk P X) (hb:BlkRel X.E S ρ w B l b) (id:Nat):BlkRel X.E S (ρ.del id) w B l (b.kill id):=by
  cases b with
  | rows u xs =>
    obtain ⟨h1,h2,h3,h4⟩:=hb
    refine ⟨h1,h2,h3,fun hn => ?_⟩
    obtain ⟨h5,h6,c,hh,h7,h8⟩:=h4 hn
    exact ⟨h5,h6,c,hh,h7,fun i x j a hi hj=>by obtain ⟨v,hv,hr⟩:=h8 i x j a hi hj; exact ⟨v,hv,hr.cellρ hX.u (hX.u.cell u x a (List.mem_of_getElem? hj))⟩⟩
  | map u v es =>
    obtain ⟨h1,h4,h5,c0,c1,hh,h6,h7⟩:=hb
    exact ⟨h1,h4,h5,c0,c1,hh,h6,fun i e p hi hj=>⟨(h7 i e p hi hj).1.cellρ hX.u,(h7 i e p hi hj).2.cellρ hX.u⟩⟩
  | amap u ks cs =>
    obtain ⟨h1,h4,h5,c0,c1,hh,h6,h7,h8⟩:=hb
    refine ⟨h1,h4,h5,c0,c1,hh,h6,by simpa using h7,fun i e y c hi hj hk => ?_⟩
    simp only [List.getElem?_map,Option.map_eq_some_iff] at hk
    obtain ⟨a0,ha0,rfl⟩:=hk
    exact ⟨(h8 i e y a0 hi hj ha0).1.cellρ hX.u,(h8 i e y a0 hi hj ha0).2.kill hX.u id⟩
  | box t cs =>
    obtain ⟨h0,h1,h2⟩:=hb
    refine ⟨h0,by simpa using h1,fun hn => ?_⟩
    obtain ⟨h5,h6,c,e,hh,h7,h8⟩:=h2 hn
    refine ⟨h5,h6,c,e,hh,h7,fun j a hj => ?_⟩
    simp only [List.getElem?_map,Option.map_eq_some_iff] at hj
    obtain ⟨a0,ha0,rfl⟩:=hj
    obtain ⟨v,hv,hr⟩:=h8 j a0 ha0
    exact ⟨v,hv,hr.kill hX.u id⟩
  | bld T j =>
    obtain ⟨h1,h4,h5,c0,c1,hh,h6,h7,h8⟩:=hb
    by_cases e:j=id
    · subst e
      show BlkRel X.E S _ w B l (bif Nat.beq j j then .box 0 [.any,.any] else .bld T j)
      rw [Nat.beq_refl]
      refine ⟨.inl rfl,h1,fun _=>⟨h4,h5,#[c0,c1],T,hh,by simp [h1],fun i a hi => ?_⟩⟩
      match i,hi with
      | 0,hi=>cases hi; exact ⟨c0,rfl,.any _⟩
      | 1,hi=>cases hi; exact ⟨c1,rfl,.any _⟩
    · show BlkRel X.E S _ w B l (bif Nat.beq j id then .box 0 [.any, .any] else .bld T j)
      rw [nbeq_ne e]
      exact ⟨h1,h4,h5,c0,c1,hh,h6,h7,h8.del hX.u id (by simp [AV.ment,e])⟩
theorem Inv.forget (hX:CtxOk P X) (hi:Inv X B S0 w0 S ρ st a w) (id:Nat):Inv X B S0 w0 S (ρ.del id) (st.forget id) a w where
  defers:=hi.defers
  size:=hi.size
  below:=hi.below
  hB:=hi.hB
  s0:=hi.s0
  s1:=hi.s1
  g0:=hi.g0
  tmps:=fun i=>by
    show Rel X.E S (ρ.del id) w (tget (tkill id st.t) i) _
    rw [tget_kill]
    exact (hi.tmps i).kill hX.u id
  heap:=by
    have key:∀ j b,hget (st.forget id).h j=some b→j≠id∧∃ b0,hget st.h j=some b0∧b=b0.kill id:=fun j b hg=>by
      simp only [St.forget,hget_kill,hget_del,Option.map_eq_some_iff] at hg
      obtain ⟨b0,hb0,rfl⟩:=hg
      split at hb0
      · cases hb0
      · rename_i e; exact ⟨e,b0,hb0,rfl⟩
    refine ⟨fun j b hg => ?_,fun i j b b' l l' hgi hgj hne hli hlj hn hn' => ?_,hi.heap.lt⟩
    · obtain ⟨e, b0, hb0, rfl⟩ := key j b hg
      obtain ⟨l,hl,hb⟩:=hi.heap.get j b0 hb0
      exact ⟨l,by simp [Rho.del,e,hl],hb.del hX id⟩
    · obtain ⟨e1, b1, hb1, _⟩ := key i b hgi
      obtain ⟨e2,b2,hb2,_⟩:=key j b' hgj
      exact hi.heap.inj i j b1 b2 l l' hb1 hb2 hne (by simpa [Rho.del,e1] using hli) (by simpa [Rho.del,e2] using hlj) hn hn'
def Rho.dels (ρ:Rho):List Nat→Rho
  | []=>ρ
  | id :: ids=>(ρ.del id).dels ids
theorem dels_none:∀ (ids:List Nat) (ρ:Rho) (j:Nat),(ρ j=none∨j∈ids)→ρ.dels ids j=none:=by
  intro ids
  induction ids with
  | nil=>intro ρ j h; exact h.resolve_right (by simp)
  | cons id ids ih =>
    intro ρ j h
    refine ih _ j ?_
    rcases h with h | h
    · left; simp [Rho.del,h]
    · rcases List.mem_cons.1 h with e | h
      · left; simp [Rho.del,e]
      · exact .inr h
theorem Inv.forgets (hX:CtxOk P X):∀ (ids:List Nat) {st:St U El} {ρ:Rho},Inv X B S0 w0 S ρ st a w→Inv X B S0 w0 S (ρ.dels ids) (st.forgets ids) a w:=by
  intro ids
  induction ids with
  | nil=>intro st ρ h; exact h
  | cons id ids ih=>intro st ρ h; exact ih (h.forget hX id)
theorem tmps_put {t:Tmps U El} {d:Option Nat} {v:Value} {av:AV U El} {a:Act} (hd:∀ e,d=some e→e < a.tmps.size) (ht:∀ i,Rel X.E S ρ w (tget t i) (a.tmps.getD i undef)) (hv:Rel X.E S ρ w av v) :
    ∀ i,Rel X.E S ρ w (tget (match d with | some d=>(d,av) :: t | none=>t) i) ((a.put d v).tmps.getD i undef):=by
  intro i
  cases d with
  | none=>exact ht i
  | some e =>
    simp only [tget,Act.put]
    have he:=hd e rfl
    by_cases h:e=i
    · subst h
      rw [Nat.beq_refl]
      simp only [cond,Array.getD_eq_getD_getElem?,Array.getElem?_setIfInBounds_self_of_lt he,Option.getD_some]
      exact hv
    · rw [nbeq_ne h]
      simp only [cond,Array.getD_eq_getD_getElem?,Array.getElem?_setIfInBounds_ne h]
      have:=ht i
      rwa [Array.getD_eq_getD_getElem?] at this
theorem Inv.put {S':Nat→Prop} {ρ':Rho} {w':World} {v:Value} {out:Out U El} {dst:Option Nat} (hi:Inv X B S0 w0 S ρ st a w) (hd:∀ e,dst=some e→e < X.nt) (hst:Step S ρ w S' ρ' w') (hv:Rel X.E S' ρ' w' out.v v) (hN:HRel X.E S' ρ' w' (From w) out.new)
    (hnew:∀ id b,hget out.new id=some b→ρ id=none):Inv X B S0 w0 S' ρ' (st.put dst out) (a.put dst v) w' where
  defers:=by cases dst<;>exact hi.defers
  size:=by cases dst<;>simp [Act.put,hi.size]
  below:=hi.below.trans (hst.fr.mono hi.hB)
  hB:=fun k hk=>hi.hB k (Nat.le_trans hst.fr.size hk)
  s0:=fun b hb=>hst.s1 b (hi.s0 b hb)
  s1:=fun b hb=>by
    rcases hst.s2 b hb with e | e
    · exact hi.s1 b e
    · exact .inr (hi.hB _ e)
  g0:=hi.g0
  tmps:=tmps_put (fun e he=>by rw [hi.size]; exact hd e he) (fun i=>hst.rel (hi.tmps i)) hv
  heap:=hst.heap hi.heap hN hi.hB hnew
theorem hget_set (h:Heap U El) (id:Nat) (c:Blk U El) (j:Nat):hget (hset h id c) j=if j=id then (hget h id).map (fun _=>c) else hget h j:=by
  induction h with
  | nil=>simp [hset,hget]
  | cons p h ih =>
    obtain ⟨i,b⟩:=p
    simp only [hset]
    by_cases e:i=id
    · subst e
      rw [Nat.beq_refl]
      simp only [cond,hget,Nat.beq_refl]
      by_cases e2:i=j
      · subst e2; simp [Nat.beq_refl]
      · rw [nbeq_ne e2,if_neg (Ne.symm e2)]
    · rw [nbeq_ne e]
      simp only [cond,hget,ih]
      by_cases e2:i=j
      · subst e2; rw [Nat.beq_refl]; simp [e]
      · rw [nbeq_ne e2,nbeq_ne e]
theorem Inv.setRow {id:Nat} {l:Loc} {b c:Blk U El} {cells:Array Value} {old:Array Value} {e:TypeId} (hi:Inv X B S0 w0 S ρ st a w) (hg:hget st.h id=some b) (hl:ρ id=some l) (hb:BlkRel X.E S ρ w B l b) (hn:l.n≠0) (hh:w.heap[l.b]? = some (.cells old e (0,0)))
    (hc:BlkRel X.E S ρ (w.setRow l.b cells) B l c):Inv X B S0 w0 S ρ ⟨st.t,hset st.h id c⟩ a (w.setRow l.b cells):=by
  obtain ⟨h1,h2,h3⟩:=hb.lt hn
  have hsame:∀ k,S k→(w.setRow l.b cells).heap[k]? = w.heap[k]? := fun k hk=>setRow_other w l.b k cells (by rintro rfl; exact h3 hk)
  refine ⟨hi.defers,hi.size,hi.below.trans ⟨rfl,rfl,rfl,by simp,fun _=>Nat.le_refl _,fun k hk hb=>setRow_other w l.b k cells (by rintro rfl; exact hb h2)⟩,by simpa using hi.hB,hi.s0,hi.s1,hi.g0,fun i=>(hi.tmps i).mono (fun _ h=>h) hsame (fun _ _ h=>h),⟨fun j b' hj => ?_,fun i j b1 b2 l1 l2 hgi hgj hne hli hlj hn1 hn2 => ?_,fun k hk=>by simpa using hi.heap.lt k hk⟩⟩
  · rw [hget_set] at hj
    by_cases e:j=id
    · subst e
      rw [if_pos rfl,hg] at hj
      cases hj
      exact ⟨l,hl,hc⟩
    · rw [if_neg e] at hj
      obtain ⟨l',hl',hb'⟩:=hi.heap.get j b' hj
      refine ⟨l',hl',hb'.mono (fun _ h=>h) hsame (fun _ _ h=>h) fun hn'=>⟨setRow_other w l.b _ cells ?_,(hb'.lt hn').2.2⟩⟩
      exact hi.heap.inj j id b' b l' l hj hg e hl' hl hn' hn
  · have k : ∀ j b', hget (hset st.h id c) j = some b' → ∃ b0, hget st.h j = some b0 := fun j b' h => by
      rw [hget_set] at h
      split at h
      · rename_i e; subst e; exact ⟨b,hg⟩
      · exact ⟨b',h⟩
    obtain ⟨b1',hb1⟩:=k i b1 hgi
    obtain ⟨b2',hb2⟩:=k j b2 hgj
    exact hi.heap.inj i j b1' b2' l1 l2 hb1 hb2 hne hli hlj hn1 hn2
theorem one_cell {c:AV U El} {v:Value} (hr:Rel X.E S ρ w c v) (h:c.one=true):v.oneCell'=true:=by
  cases hr<;>first | rfl | (simp [AV.one] at h; done)
theorem td_size {ty:TypeId} {td:TD U} {sz:Nat} {ag:Bool} (hk:TDOk P X.E ty td) (h:tdAgg td=some (sz,ag)) (h1:ag=false→∃ i,P.info? ty=some i∧i.size=1):∃ i,P.info? ty=some i∧i.size=sz:=by
  cases hag:ag with
  | true=>exact (td_agg hk h).2 hag
  | false =>
    obtain ⟨i,hi,h2⟩:=h1 hag
    subst hag
    have:sz=1:=by cases td<;>simp [tdAgg] at h<;>omega
    exact ⟨i,hi,by rw [h2,this]⟩
theorem list3_get {α:Type} (x n y:List α) (off:Nat) (ho:off=x.length) (j:Nat):(x++n++y)[j]? = if j < off then x[j]? else if j < off+n.length then n[j - off]? else y[j - (off+n.length)]? := by
  subst ho
  split
  · rename_i h
    rw [List.append_assoc,List.getElem?_append_left h]
  · split
    · rename_i h1 h2
      rw [List.append_assoc,List.getElem?_append_right (by omega),List.getElem?_append_left (by omega)]
    · rename_i h1 h2
      rw [List.getElem?_append_right (by simp; omega)]
      simp
theorem storeOp_core {ty : TypeId} {p v : Operand} {k : St U El → Option (Fin U El)} (hX : CtxOk P X) (ho : o.op = .store ty p v) (hi : Inv X B S0 w0 S ρ st a w)
    (hv:storeOp X ty (oget st.t p) (oget st.t v) st k=some r) {next:Act→World→Prop} {Q:Exit→Act→World→Prop} (hd:∀ e,o.dst=some e→False)
    (hn:∀ st' w',(∀ b,S b→w'.heap[b]? = w.heap[b]?)→Inv X B S0 w0 S ρ st' a w'→k st'=some r→next a w'):o.wp P a w next Q:=by
  have hdst:o.dst=none:=by
    cases e:o.dst with
    | none=>rfl
    | some d=>exact (hd d e).elim
  have hpr:Rel X.E S ρ w (oget st.t p) (a.eval p):=Rel.oget fun i _=>hi.tmps i
  have hvr:Rel X.E S ρ w (oget st.t v) (a.eval v):=Rel.oget fun i _=>hi.tmps i
  unfold storeOp at hv
  split at hv
  · rename_i td htd
    split at hv
    · rename_i sz ag ns hag hns
      obtain ⟨hck,hv1⟩:=chk_some hv
      simp only [Bool.and_eq_true] at hck
      obtain ⟨⟨hl,hpos⟩,hone⟩:=hck
      have hpos:0 < sz:=Nat.le_of_ble_eq_true hpos
      have hl:ns.length=sz:=Nat.eq_of_beq_eq_true hl
      obtain ⟨hcs,hcr⟩:=cellsOf_rel hvr hns
      obtain ⟨ti,hti,hti1⟩:=hX.one _ _ htd
      have hsz:∃ i,P.info? ty=some i∧i.size=sz:=td_size (hX.td _ _ htd) hag (fun e=>by
        obtain ⟨⟨dd,hd1,hd2⟩,_⟩:=td_agg (hX.td _ _ htd) hag
        exact ⟨ti,hti,hti1 (by rw [agT_eq hd1,hd2,e])⟩)
      obtain ⟨inf,hinf,hinfs⟩:=hsz
      have hones:∀ x∈(a.eval v).cells.toList,x.oneCell'=true:=fun x hx=>by
        obtain ⟨j,hj⟩:=List.getElem?_of_mem hx
        have hj':(a.eval v).cells[j]? = some x:=by simpa using hj
        have hjl:j < ns.length:=by rw [← hcs]; exact (Array.getElem?_eq_some_iff.1 hj').1
        exact one_cell (hcr j _ x (List.getElem?_eq_getElem hjl) hj') (by simp at hone; exact hone _ (List.getElem_mem hjl))
      have hrun:∀ (b off:Nat) (cur:Array Value) (e:TypeId),a.eval p = .pointer (some ⟨b,off,none⟩)→w.heap[b]? = some (.cells cur e (0,0))→off+ns.length≤cur.size →
          (execOp a.eval o).run P w = .ok .skip (w.setRow b (cur.toList.take off++(a.eval v).cells.toList++cur.toList.drop (off+ns.length)).toArray):=fun b off cur e he hh hle=>by
        have hst:=run_storeCells_at P b off e (a.eval v).cells.toList 0 cur w hh (by simp [hcs]; omega) hones
        simp only [Nat.add_zero,Array.length_toList,hcs] at hst
        simp [execOp,ho,Instr.storeAt,Instr.sureAddr,he,storeVar,run_szT hinf,hinfs,hcs,hl]
        rw [hst]
        simp [hl]
      have hgo:∀ {b off:Nat} {cur:Array Value} {e:TypeId} {st':St U El},a.eval p = .pointer (some ⟨b,off,none⟩)→w.heap[b]? = some (.cells cur e (0,0))→off+ns.length≤cur.size→¬ S b→k st'=some r →
          Inv X B S0 w0 S ρ st' a (w.setRow b (cur.toList.take off++(a.eval v).cells.toList++cur.toList.drop (off+ns.length)).toArray)→o.wp P a w next Q:=by
        intro b off cur e st' he hh hle hnS hk hinv
        unfold Oper.wp
        rw [hrun b off cur e he hh hle]
        show next (a.put o.dst undef) _
        rw [hdst]
        exact hn st' _ (fun k hk=>setRow_other w b k _ (by rintro rfl; exact hnS hk)) hinv hk
      split at hv1
      · rename_i id off hpe
        split at hv1
        · rename_i tg cs hg
          obtain ⟨hb,hk⟩:=chk_some hv1
          have hle:off+sz≤cs.length:=Nat.le_of_ble_eq_true hb
          obtain ⟨l,hlρ,hbl⟩:=hi.heap.get _ _ hg
          have hbl':=hbl
          obtain ⟨b0,b1,b2⟩:=hbl
          by_cases hn0:l.n=0
          · exfalso; omega
          · obtain ⟨b3, b4, cur, e, hh, b5, b6⟩ := b2 hn0
            rw [hpe] at hpr
            generalize hq:a.eval p=q at hpr
            cases hpr with
            | ptr _ _ l' hl' =>
              rw [hlρ] at hl'; cases hl'
              refine hgo hq hh (by omega) b4 hk (hi.setRow hg hlρ hbl' hn0 hh ?_)
              have hlen:(cs.take off++ns++cs.drop (off+sz)).length=cs.length:=by simp; omega
              have hsame:∀ k,S k→(w.setRow l.b (cur.toList.take off++(a.eval v).cells.toList++cur.toList.drop (off+ns.length)).toArray).heap[k]? = w.heap[k]? := fun k hk=>setRow_other w l.b k _ (by rintro rfl; exact b4 hk)
              refine ⟨b0,by rw [hlen]; exact b1,fun _=>⟨b3,b4,_,e,setRow_heap w l.b cur _ e _ hh,by simp [hcs]; omega,fun j c hj => ?_⟩⟩
              rw [list3_get _ _ _ off (by simp; omega)] at hj
              simp only [List.getElem?_toArray]
              rw [list3_get _ _ _ off (by simp; omega)]
              simp only [Array.length_toList,hcs]
              split at hj
              · rename_i h1
                rw [if_pos h1]
                rw [List.getElem?_take_of_lt h1] at hj ⊢
                obtain ⟨x,hx,hrx⟩:=b6 j c hj
                exact ⟨x,by simpa using hx,hrx.mono (fun _ h=>h) hsame (fun _ _ h=>h)⟩
              · rename_i h1
                rw [if_neg h1]
                split at hj
                · rename_i h2
                  rw [if_pos h2]
                  have hjl:j - off < (a.eval v).cells.size:=by omega
                  refine ⟨(a.eval v).cells[j - off],by simp [hjl],?_⟩
                  exact (hcr _ c _ hj (Array.getElem?_eq_getElem hjl)).mono (fun _ h=>h) hsame (fun _ _ h=>h)
                · rename_i h2
                  rw [if_neg h2]
                  rw [List.getElem?_drop] at hj ⊢
                  obtain ⟨x,hx,hrx⟩:=b6 _ c hj
                  refine ⟨x,?_,hrx.mono (fun _ h=>h) hsame (fun _ _ h=>h)⟩
                  rw [← hx,hl]
                  simp
        · cases hv1
      · rename_i id i off hpe
        split at hv1
        · rename_i u xs hg
          obtain ⟨hb,hk0⟩:=chk_some hv1
          simp only [Bool.and_eq_true] at hb
          obtain ⟨hbi,hbo⟩:=hb
          have hil:i < xs.length:=by simpa [nlt] using hbi
          have hle:off+sz≤X.E.sz u:=Nat.le_of_ble_eq_true hbo
          split at hk0
          · rename_i y hy
            obtain ⟨l,hlρ,hbl⟩:=hi.heap.get _ _ hg
            have hbl':=hbl
            obtain ⟨c1,c2,c3,c4⟩:=hbl
            have hp:=hX.u.pos u
            have hn0:l.n≠0:=by have:=Nat.mul_pos (show 0 < xs.length by omega) hp; omega
            obtain ⟨b3,b4,cur,hh,b5,b6⟩:=c4 hn0
            have hrow:(i+1) * X.E.sz u≤xs.length * X.E.sz u:=Nat.mul_le_mul_right _ hil
            rw [Nat.add_mul,Nat.one_mul] at hrow
            rw [hpe] at hpr
            generalize hq:a.eval p=q at hpr
            cases hpr with
            | row _ _ _ l' hl' =>
              rw [hlρ] at hl'; cases hl'
              rw [c1] at hq
              refine hgo hq hh (by omega) b4 hk0 (hi.setRow hg hlρ hbl' hn0 hh ?_)
              have hsame:∀ k,S k→(w.setRow l.b (cur.toList.take (i * X.E.sz u+off)++(a.eval v).cells.toList++cur.toList.drop (i * X.E.sz u+off+ns.length)).toArray).heap[k]? = w.heap[k]? := fun k hk=>setRow_other w l.b k _ (by rintro rfl; exact b4 hk)
              refine ⟨c1,by simpa using c2,by simpa using c3,fun _=>⟨b3,b4,_,setRow_heap w l.b cur _ _ _ hh,by simp [hcs]; omega,fun i' x j c hix hjc => ?_⟩⟩
              have hjl:j < X.E.sz u:=by rw [← hX.u.len u x]; exact (List.getElem?_eq_some_iff.1 hjc).1
              simp only [List.getElem?_toArray]
              rw [list3_get _ _ _ (i * X.E.sz u+off) (by simp; omega)]
              simp only [Array.length_toList,hcs]
              by_cases he:i'=i
              · subst he
                rw [List.getElem?_set_self hil] at hix
                cases hix
                obtain ⟨d1,d2⟩:=hX.u.dec _ _ _ hy
                obtain ⟨c',hc',hor⟩:=d2 j c hjc
                have hxi:xs[i']? = some (xs.getD i' (X.E.dflt u)):=by simp [List.getD,List.getElem?_eq_getElem hil]
                have henc:=hX.u.len u (xs.getD i' (X.E.dflt u))
                have final:∀ vv,Rel X.E S ρ w c' vv→Rel X.E S ρ (w.setRow l.b (cur.toList.take (i' * X.E.sz u+off)++(a.eval v).cells.toList++cur.toList.drop (i' * X.E.sz u+off+ns.length)).toArray) c vv:=fun vv hr=>by
                  rcases hor with rfl | ⟨rfl,u',rfl⟩
                  · exact hr.mono (fun _ h=>h) hsame (fun _ _ h=>h)
                  · cases hr; exact .lstE u' _ _
                rw [list3_get _ _ _ off (by rw [List.length_take,henc]; omega)] at hc'
                split at hc'
                · rename_i h1
                  rw [if_pos (by omega)]
                  rw [List.getElem?_take_of_lt h1] at hc'
                  obtain ⟨x,hx,hrx⟩:=b6 i' _ j c' hxi hc'
                  exact ⟨x,by rw [List.getElem?_take_of_lt (by omega)]; simpa using hx,final x hrx⟩
                · rename_i h1
                  rw [if_neg (by omega)]
                  split at hc'
                  · rename_i h2
                    rw [if_pos (by omega)]
                    have hjl':j - off < (a.eval v).cells.size:=by omega
                    refine ⟨(a.eval v).cells[j - off],?_,final _ (hcr _ c' _ hc' (Array.getElem?_eq_getElem hjl'))⟩
                    rw [show i' * X.E.sz u+j - (i' * X.E.sz u+off)=j - off by omega]
                    simp [hjl']
                  · rename_i h2
                    rw [if_neg (by omega)]
                    rw [List.getElem?_drop] at hc'
                    obtain ⟨x,hx,hrx⟩:=b6 i' _ _ c' hxi hc'
                    refine ⟨x,?_,final x hrx⟩
                    rw [List.getElem?_drop,← hx]
                    simp
                    congr 1
                    omega
              · rw [List.getElem?_set_ne (Ne.symm he)] at hix
                obtain ⟨x',hx',hrx⟩:=b6 i' x j c hix hjc
                refine ⟨x',?_,hrx.mono (fun _ h=>h) hsame (fun _ _ h=>h)⟩
                rcases Nat.lt_or_gt_of_ne he with h1 | h1
                · have h2 : (i' + 1) * X.E.sz u ≤ i * X.E.sz u := Nat.mul_le_mul_right _ h1
                  rw [Nat.add_mul,Nat.one_mul] at h2
                  rw [if_pos (by omega),List.getElem?_take_of_lt (by omega)]
                  simpa using hx'
                · have h2 : (i + 1) * X.E.sz u ≤ i' * X.E.sz u := Nat.mul_le_mul_right _ h1
                  rw [Nat.add_mul,Nat.one_mul] at h2
                  rw [if_neg (by omega),if_neg (by omega),List.getElem?_drop,← hx']
                  simp
                  congr 1
                  omega
          · cases hk0
        · cases hv1
      · cases hv1
    · cases hv
  · cases hv
theorem storeOp_sound {ty:TypeId} {p v:Operand} {k:St U El→Option (Fin U El)} (hX:CtxOk P X) (ho:o.op = .store ty p v) (hi:Inv X B S0 w0 S ρ st a w)
    (hv:storeOp X ty (oget st.t p) (oget st.t v) st k=some r) {next:Act→World→Prop} {Q:Exit→Act→World→Prop} (hd:∀ e,o.dst=some e→False)
    (hn:∀ st' a' w',StRel X B S0 w0 st' a' w'→k st'=some r→next a' w'):o.wp P a w next Q :=
  storeOp_core hX ho hi hv hd fun st' w' _ hinv hk=>hn st' a w' ⟨S,ρ,hinv⟩ hk
theorem storeOp_one {ty : TypeId} {p v : AV U El} {id : Nat} {k : St U El → Option (Fin U El)} (hnm : names id p = true) (hv : storeOp X ty p v st k = some r) :
    ∃ b old,hget st.h id=some old∧k ⟨st.t,hset st.h id b⟩=some r∧∀ (aA:St U El) (k2:St U El→Option (Fin U El)),hget aA.h id=some old→storeOp X ty p v aA k2=k2 ⟨aA.t,hset aA.h id b⟩:=by
  unfold storeOp at hv
  split at hv
  · rename_i td htd
    split at hv
    · rename_i sz ag ns hag hns
      obtain ⟨hck,hv1⟩:=chk_some hv
      split at hv1
      · rename_i j off
        obtain rfl:=Nat.eq_of_beq_eq_true (show Nat.beq j id=true from hnm)
        split at hv1
        · rename_i tg cs hg
          obtain ⟨hb,hk⟩:=chk_some hv1
          refine ⟨_,_,hg,hk,fun aA k2 h2 => ?_⟩
          unfold storeOp
          rw [htd]
          simp only [hag,hns,hck,h2,hb,chk,cond_true]
        · cases hv1
      · rename_i j i off
        obtain rfl:=Nat.eq_of_beq_eq_true (show Nat.beq j id=true from hnm)
        split at hv1
        · rename_i u xs hg
          obtain ⟨hb,hk0⟩:=chk_some hv1
          split at hk0
          · rename_i y hy
            refine ⟨_,_,hg,hk0,fun aA k2 h2 => ?_⟩
            unfold storeOp
            rw [htd]
            simp only [hag,hns,hck,h2,hb,hy,chk,cond_true]
          · cases hk0
        · cases hv1
      · cases hv1
    · cases hv
  · cases hv
theorem Inv.setMap {id:Nat} {l:Loc} {u v:U} {es es':List (El u×El v)} {ents ents':Array MapEntry} {clock clock':Nat} (hi:Inv X B S0 w0 S ρ st a w) (hg:hget st.h id=some (.map u v es)) (hl:ρ id=some l) (hh:w.heap[l.b]? = some (.map ents clock))
    (hsz:ents'.size=es'.length) (hent:∀ (i:Nat) (e:MapEntry) (p:El u×El v),ents'[i]? = some e→es'[i]? = some p→ERel X.E S ρ w u p.1 e.key∧ERel X.E S ρ w v p.2 e.val) :
    (∀ b,S b→({ w with heap:=w.heap.setIfInBounds l.b (.map ents' clock') }:World).heap[b]? = w.heap[b]?)∧Inv X B S0 w0 S ρ ⟨st.t,hset st.h id (.map u v es')⟩ a { w with heap:=w.heap.setIfInBounds l.b (.map ents' clock') }:=by
  obtain ⟨l',hl',hb⟩:=hi.heap.get _ _ hg
  rw [hl] at hl'; cases hl'
  have hn:l.n≠0:=by have:=hb.1; omega
  obtain ⟨h1,h2,h3⟩:=hb.lt hn
  have hoth:∀ k,k≠l.b→({ w with heap:=w.heap.setIfInBounds l.b (.map ents' clock') }:World).heap[k]? = w.heap[k]? := fun k hk=>by simp [Ne.symm hk]
  have hsame:∀ k,S k→({ w with heap:=w.heap.setIfInBounds l.b (.map ents' clock') }:World).heap[k]? = w.heap[k]? := fun k hk=>hoth k (by rintro rfl; exact h3 hk)
  refine ⟨hsame,hi.defers,hi.size,hi.below.trans ⟨rfl,rfl,rfl,by simp,fun _=>Nat.le_refl _,fun k hk hb=>hoth k (by rintro rfl; exact hb h2)⟩,by simpa using hi.hB,hi.s0,hi.s1,hi.g0,fun i=>(hi.tmps i).mono (fun _ h=>h) hsame (fun _ _ h=>h),⟨fun j b' hj => ?_,fun i j b1 b2 l1 l2 hgi hgj hne hli hlj hn1 hn2 => ?_,fun k hk=>by simpa using hi.heap.lt k hk⟩⟩
  · rw [hget_set] at hj
    by_cases e:j=id
    · subst e
      rw [if_pos rfl,hg] at hj
      cases hj
      exact ⟨l,hl,hb.1,h2,h3,ents',clock',by simp [h1],hsz,fun i e p hi' hp=>⟨(hent i e p hi' hp).1.mono (fun _ h=>h) hsame (fun _ _ h=>h),(hent i e p hi' hp).2.mono (fun _ h=>h) hsame (fun _ _ h=>h)⟩⟩
    · rw [if_neg e] at hj
      obtain ⟨l',hl',hb'⟩:=hi.heap.get j b' hj
      refine ⟨l',hl',hb'.mono (fun _ h=>h) hsame (fun _ _ h=>h) fun hn'=>⟨hoth _ ?_,(hb'.lt hn').2.2⟩⟩
      exact hi.heap.inj j id b' _ l' l hj hg e hl' hl hn' hn
  · have k : ∀ j b', hget (hset st.h id (.map u v es')) j = some b' → ∃ b0, hget st.h j = some b0 := fun j b' h => by
      rw [hget_set] at h
      split at h
      · rename_i e; subst e; exact ⟨_,hg⟩
      · exact ⟨b',h⟩
    obtain ⟨b1',hb1⟩:=k i b1 hgi
    obtain ⟨b2',hb2⟩:=k j b2 hgj
    exact hi.heap.inj i j b1' b2' l1 l2 hb1 hb2 hne hli hlj hn1 hn2
theorem mupdOp_core {ty : TypeId} {m ix x : Operand} {k : St U El → Option (Fin U El)} (hX : CtxOk P X) (ho : o.op = .mapUpdate ty m ix x ∨ o.op = .insert ty m ix x) (hi : Inv X B S0 w0 S ρ st a w)
    (hv:mupdOp X ty (oget st.t m) (oget st.t ix) (oget st.t x) st k=some r) {next:Act→World→Prop} {Q:Exit→Act→World→Prop} (hdst:o.dst=none)
    (hn:∀ st' w',(∀ b,S b→w'.heap[b]? = w.heap[b]?)→Inv X B S0 w0 S ρ st' a w'→k st'=some r→next a w'):o.wp P a w next Q:=by
  have hmr:Rel X.E S ρ w (oget st.t m) (a.eval m):=Rel.oget fun i _=>hi.tmps i
  have hir:Rel X.E S ρ w (oget st.t ix) (a.eval ix):=Rel.oget fun i _=>hi.tmps i
  have hxr:Rel X.E S ρ w (oget st.t x) (a.eval x):=Rel.oget fun i _=>hi.tmps i
  have hex:(execOp a.eval o)=(do Instr.mapUpdate ty (a.eval m) (a.eval ix) (a.eval x); pure .skip):=by rcases ho with ho | ho<;>simp [execOp,ho]
  unfold mupdOp at hv
  split at hv
  · rename_i u v id htd hm
    split at hv
    · rename_i u' v' es hg
      obtain ⟨hck,hv1⟩:=chk_some hv
      simp only [Bool.and_eq_true,decide_eq_true_eq] at hck
      obtain ⟨rfl,rfl,h3,h4⟩:=hck
      split at hv1
      · rename_i y z hy hz
        obtain ⟨l,ents,clock,hl,hq,_,_,_,hh,hsz,hent⟩:=mp_rel (t:=st.t) (m:=m) hmr hm hi.heap hg
        have hkey:=decV_rel hX.u hy hir
        have hval:=decV_rel hX.u hz hxr
        have K:=hX.u.key _ h3
        have hu:P.underlying ty=some (.map (X.E.tid u') (X.E.tid v')):=hX.td _ _ htd
        have fin:∀ {ents':Array MapEntry} {clock':Nat},(Instr.mapUpdate ty (a.eval m) (a.eval ix) (a.eval x)).run P w = .ok () { w with heap:=w.heap.setIfInBounds l.b (.map ents' clock') }→ents'.size=(mput (X.E.keq u') es y z).length →
            (∀ (i:Nat) (e:MapEntry) (p:El u'×El v'),ents'[i]? = some e→(mput (X.E.keq u') es y z)[i]? = some p→ERel X.E S ρ w u' p.1 e.key∧ERel X.E S ρ w v' p.2 e.val)→o.wp P a w next Q:=by
          intro ents' clock' hrun hsz' hent'
          obtain ⟨g1,g2⟩:=hi.setMap (clock':=clock') hg hl hh hsz' hent'
          unfold Oper.wp
          rw [hex]
          simp only [Sem.run_bind,hrun,Result.andThen_ok,Sem.run_pure]
          show next (a.put o.dst undef) _
          rw [hdst]
          exact hn _ _ g1 g2 hv1
        rcases ent_find K hsz hent hkey with ⟨hf,hmi0⟩ | ⟨j,e,p,hf,hmi,he,hp,hkq,hr1,hr2⟩
        · have hp : mput (X.E.keq u') es y z = es ++ [(y, z)] := by rw [mput_idx, hmi0]
          refine fin (ents':=ents.push { key:=a.eval ix,val:=a.eval x,born:=clock }) (clock':=clock+1) ?_ (by rw [hp]; simp [hsz]) (fun i e p he hpi => ?_)
          · simp [Instr.mapUpdate,run_underlying hu,hq,MapKept.run_getObj_map hh,K.check _ hkey,hf,MapKept.run_setObj_map _ hh]
          · rw [hp] at hpi
            rw [Array.getElem?_push] at he
            by_cases hi':i=ents.size
            · rw [if_pos hi'] at he
              rw [hi',hsz,List.getElem?_append_right (Nat.le_refl _)] at hpi
              simp at hpi he
              subst hpi he
              exact ⟨hkey,hval⟩
            · rw [if_neg hi'] at he
              have hlt:i < es.length:=by rw [← hsz]; exact (Array.getElem?_eq_some_iff.1 he).1
              rw [List.getElem?_append_left hlt] at hpi
              exact hent i e p he hpi
        · have hpu : mput (X.E.keq u') es y z = es.set j (y, z) := by rw [mput_idx, hmi]
          have hjl:j < ents.size:=(Array.getElem?_eq_some_iff.1 he).1
          refine fin (ents':=ents.modify j fun e=>{ e with key:=a.eval ix,val:=a.eval x }) (clock':=clock) ?_ (by rw [hpu]; simp [hsz]) (fun i e' p' he' hpi => ?_)
          · simp [Instr.mapUpdate,run_underlying hu,hq,MapKept.run_getObj_map hh,K.check _ hkey,hf,he,K.stays hkey hr1 hkq,MapKept.run_setObj_map _ hh]
          · rw [hpu] at hpi
            rw [Array.getElem?_modify] at he'
            by_cases hij:j=i
            · subst hij
              rw [if_pos rfl,he] at he'
              rw [List.getElem?_set_self (by rw [← hsz]; exact hjl)] at hpi
              cases hpi
              cases he'
              exact ⟨hkey,hval⟩
            · rw [if_neg hij] at he'
              rw [List.getElem?_set_ne hij] at hpi
              exact hent i e' p' he' hpi
      · cases hv1
    · cases hv
  · cases hv
theorem mupdOp_one {ty : TypeId} {m ix x : AV U El} {id : Nat} {k : St U El → Option (Fin U El)} (hnm : names id m = true) (hv : mupdOp X ty m ix x st k = some r) :
    ∃ b old,hget st.h id=some old∧k ⟨st.t,hset st.h id b⟩=some r∧∀ (aA:St U El) (k2:St U El→Option (Fin U El)),hget aA.h id=some old→mupdOp X ty m ix x aA k2=k2 ⟨aA.t,hset aA.h id b⟩:=by
  unfold mupdOp at hv
  split at hv
  · rename_i u v j htd
    obtain rfl:=Nat.eq_of_beq_eq_true (show Nat.beq j id=true from hnm)
    split at hv
    · rename_i u' v' es hg
      obtain ⟨hck,hv1⟩:=chk_some hv
      split at hv1
      · rename_i y z hy hz
        refine ⟨_,_,hg,hv1,fun aA k2 h2 => ?_⟩
        unfold mupdOp
        rw [htd]
        simp only [h2,hck,hy,hz,chk,cond_true]
      · cases hv1
    · cases hv
  · cases hv
end
end Go.Proofs.Ytkeplmpcijigaaa
