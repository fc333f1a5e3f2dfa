import Derived.Test.YtlkfbblapimhoaaGreatDoorLU
import Derived.Defers
namespace Go.Proofs.YtlkfbblapimhoaaGreatDoor
set_option linter.all false
open Go.RowKit
section
variable {U:Type} {El:U→Type} {P:Program} {X:Ctx U El} {S S0:Nat→Prop} {ρ:Rho} {w w0:World} [DecidableEq U] [Drw]
variable {o:Oper} {a:Act} {st:St U El} {B:Bd} {d:Nat} {r:Fin U El}
def topId:Heap U El→Nat→Nat
 | [],m=>m
 | (j,_) :: h,m=>topId h (bif Nat.blt j hidBase&&Nat.blt m j then j else m)
def freshN (h:Heap U El):Nat:=topId h 2000000+1
def freshen (p:Nat→Bool):List Nat→St U El→St U El
 | [],st=>st
 | id :: ids,st=>bif p id then (bif Nat.beq id (freshN st.h) then freshen p ids st else freshen p ids ((st.forget (freshN st.h)).rename id (freshN st.h))) else freshen p ids st
theorem freshen_sound (hX : CtxOk P X) (p : Nat → Bool) : ∀ (ids : List Nat) (st : St U El), StRel X B S0 w0 st a w → StRel X B S0 w0 (freshen p ids st) a w := by
  intro ids
  induction ids with
  | nil=>intro st hs; exact hs
  | cons id ids ih =>
    intro st hs
    unfold freshen
    cases p id with
    | false=>exact ih st hs
    | true =>
      simp only [cond_true]
      by_cases e:id=freshN st.h
      · rw [show Nat.beq id (freshN st.h)=true by rw [← e]; exact Nat.beq_refl id,cond_true]; exact ih st hs
      · rw [nbeq_ne e, cond_false]
        obtain ⟨S,ρ,hi⟩:=hs
        obtain ⟨ρ',hi'⟩:=(hi.forget hX (freshN st.h)).rename hX e (by simp [Rho.del])
        exact ih _ ⟨S,ρ',hi'⟩
def clashes (d j:Nat):Bool:=Nat.beq j d||(Nat.ble (d * 1000) j&&Nat.blt j (d * 1000+1000))
def makes (o:Oper):Bool :=
 match o.op with
 | .box _ _=>true
 | .alloc _=>true
 | .buildSlice _ _ _=>true
 | .makeSlice _ _ _=>true
 | .makeMap _ _=>true
 | .call ⟨.value _,_,_⟩=>true
 | .call ⟨.builtin .append,_,_⟩=>true
 | _=>false
def freshOp (o:Oper) (st:St U El):St U El:=bif makes o then freshen (clashes (o.dst.getD 999)) (st.h.map (·.1)) st else st
def freshOps:List Oper→St U El→St U El
 | [],st=>st
 | o :: os,st=>freshOps os (freshOp o st)
theorem freshOp_sound (hX:CtxOk P X) (o:Oper) (hs:StRel X B S0 w0 st a w):StRel X B S0 w0 (freshOp o st) a w:=by
 unfold freshOp
 cases makes o
 ·exact hs
 ·exact freshen_sound hX _ _ _ hs
theorem freshOps_sound (hX:CtxOk P X):∀ (os:List Oper) (st:St U El),StRel X B S0 w0 st a w→StRel X B S0 w0 (freshOps os st) a w:=by
 intro os
 induction os with
 | nil=>intro st hs; exact hs
 | cons o os ih=>intro st hs; exact ih _ (freshOp_sound hX o hs)
theorem op_makeAmap {ty:TypeId} {u:U} (ho:o.op=.makeMap ty none) (hlt:∀ b,S b→b < w.heap.size) (hd:ρ d=none):OpDone P X.E S ρ w o a d ⟨.mp d,[(d,.amap u [] [])]⟩:=by
 refine done_newOb (ob:=.map #[] 0) (v:=.map (some w.heap.size)) ⟨w.heap.size,1,1,0⟩ (by simp [newIds,ho]) hd ?_ hlt (fun _=>rfl) (fun ρ' h1 _=>.mp d _ h1) (fun ρ' h1 _ hns=>?_)
 ·simp only [execOp,ho,Instr.makeMap,Option.map_none]; rfl
 ·exact ⟨rfl,Nat.le_refl _,hns,#[],0,heap_new w _,rfl,rfl,fun i e y c hi=>by simp at hi⟩
theorem amp_rel {m:Value} {id:Nat} {u:U} {ks:List (El u)} {cs:List (AV U El)} {H:Heap U El} (hr:Rel X.E S ρ w (.mp id) m) (hH:HRel X.E S ρ w B H) (hg:hget H id=some (.amap u ks cs)) :
    ∃ l ents clock,ρ id=some l∧m=.map (some l.b)∧l.n=1∧B.own l.b∧¬ S l.b∧w.heap[l.b]? = some (.map ents clock)∧ents.size=ks.length∧ents.size=cs.length∧∀ (i:Nat) (e:MapEntry) (y:El u) (c:AV U El),ents[i]? = some e→ks[i]? = some y→cs[i]? = some c→ERel X.E S ρ w u y e.key∧Rel X.E S ρ w c e.val:=by
  cases hr with
  | mp _ l hl =>
    obtain ⟨l',hl',hbl⟩:=hH.get _ _ hg
    rw [hl] at hl'; cases hl'
    obtain ⟨h1,h2,h3,ents,clock,h4,h5,h6,h7⟩:=hbl
    exact ⟨l,ents,clock,hl,rfl,h1,h2,h3,h4,h5,h6,h7⟩
theorem aent_find {u:U} {ks:List (El u)} {cs:List (AV U El)} {ents:Array MapEntry} {x:El u} {kv:Value} (K:KeyOk P X.E u) (hsz:ents.size=ks.length) (aA:ents.size=cs.length)
    (hent:∀ (i:Nat) (e:MapEntry) (y:El u) (c:AV U El),ents[i]? = some e→ks[i]? = some y→cs[i]? = some c→ERel X.E S ρ w u y e.key∧Rel X.E S ρ w c e.val) (hk:ERel X.E S ρ w u x kv) :
    ((Instr.findKey (X.E.tid u) kv ents.toList).run P w=.ok none w∧midx (X.E.keq u) ks x=none) ∨
    ∃ i e y c,(Instr.findKey (X.E.tid u) kv ents.toList).run P w=.ok (some (i,e.val)) w∧midx (X.E.keq u) ks x=some i∧ents[i]? = some e∧ks[i]? = some y∧cs[i]? = some c∧X.E.keq u x y=true∧ERel X.E S ρ w u y e.key∧Rel X.E S ρ w c e.val:=by
  have hf:=K.find ents.toList ks hk (by simp [hsz]) (fun i e y he hy=>by
    have hil:i < cs.length:=by rw [← aA,hsz]; exact (List.getElem?_eq_some_iff.1 hy).1
    exact (hent i e y _ (by simpa using he) hy (List.getElem?_eq_getElem hil)).1)
  cases hm:midx (X.E.keq u) ks x with
  | none=>exact .inl ⟨by rw [hf,hm]; rfl,rfl⟩
  | some i =>
    obtain ⟨y,h1,h2⟩:=midx_lt _ _ _ _ hm
    have hik:i < ks.length:=(List.getElem?_eq_some_iff.1 h1).1
    have hil:i < ents.size:=by rw [hsz]; exact hik
    have hic:i < cs.length:=by rw [← aA]; exact hil
    have he:ents[i]? = some ents[i]:=Array.getElem?_eq_getElem hil
    have hc:cs[i]? = some cs[i]:=List.getElem?_eq_getElem hic
    obtain ⟨g1,g2⟩:=hent i _ y _ he h1 hc
    refine .inr ⟨i,ents[i],y,cs[i],?_,rfl,he,h1,hc,h2,g1,g2⟩
    rw [hf,hm]
    simp [hil]
theorem Inv.setAmap {id:Nat} {l:Loc} {u:U} {ks ks':List (El u)} {cs cs':List (AV U El)} {ents ents':Array MapEntry} {clock clock':Nat} (hi:Inv X B S0 w0 S ρ st a w) (hg:hget st.h id=some (.amap u ks cs)) (hl:ρ id=some l) (hh:w.heap[l.b]? = some (.map ents clock))
  (hsz:ents'.size=ks'.length) (aA:ents'.size=cs'.length) (hent:∀ (i:Nat) (e:MapEntry) (y:El u) (c:AV U El),ents'[i]? = some e→ks'[i]? = some y→cs'[i]? = some c→ERel X.E S ρ w u y e.key∧Rel X.E S ρ w c e.val) :
  Inv X B S0 w0 S ρ ⟨st.t,hset st.h id (.amap u ks' cs')⟩ a { w with heap:=w.heap.setIfInBounds l.b (.map ents' clock') }:=by
 obtain ⟨l',hl',hb⟩:=hi.heap.get _ _ hg
 rw [hl] at hl'; cases hl'
 have hn:l.n≠0:=by have:=hb.1; omega
 obtain ⟨h1,h2,h3⟩:=hb.lt hn
 have hoth:∀ k,k≠l.b→({ w with heap:=w.heap.setIfInBounds l.b (.map ents' clock') }:World).heap[k]? = w.heap[k]?:=fun k hk=>by simp [Ne.symm hk]
 have hsame:∀ k,S k→({ w with heap:=w.heap.setIfInBounds l.b (.map ents' clock') }:World).heap[k]? = w.heap[k]?:=fun k hk=>hoth k (by rintro rfl; exact h3 hk)
 refine ⟨hi.defers,hi.size,hi.below.trans ⟨rfl,rfl,rfl,by simp,fun _=>Nat.le_refl _,fun k hk hb=>hoth k (by rintro rfl; exact hb h2)⟩,by simpa using hi.hB,hi.s0,hi.s1,hi.g0,fun i=>(hi.tmps i).mono (fun _ h=>h) hsame (fun _ _ h=>h),⟨fun j b' hj=>?_,fun i j b1 b2 l1 l2 hgi hgj hne hli hlj hn1 hn2=>?_,fun k hk=>by simpa using hi.heap.lt k hk⟩⟩
 ·rw [hget_set] at hj
  by_cases e:j=id
  ·subst e
   rw [if_pos rfl,hg] at hj
   cases hj
   exact ⟨l,hl,hb.1,h2,h3,ents',clock',by simp [h1],hsz,aA,fun i e y c hi' hy hc=>⟨(hent i e y c hi' hy hc).1.mono (fun _ h=>h) hsame (fun _ _ h=>h),(hent i e y c hi' hy hc).2.mono (fun _ h=>h) hsame (fun _ _ h=>h)⟩⟩
  ·rw [if_neg e] at hj
   obtain ⟨l',hl',hb'⟩:=hi.heap.get j b' hj
   refine ⟨l',hl',hb'.mono (fun _ h=>h) hsame (fun _ _ h=>h) fun hn'=>⟨hoth _ ?_,(hb'.lt hn').2.2⟩⟩
   exact hi.heap.inj j id b' _ l' l hj hg e hl' hl hn' hn
 ·have k:∀ j b',hget (hset st.h id (.amap u ks' cs')) j=some b' → ∃ b0,hget st.h j=some b0:=fun j b' h=>by
   rw [hget_set] at h
   split at h
   ·rename_i e; subst e; exact ⟨_,hg⟩
   ·exact ⟨b',h⟩
  obtain ⟨b1',hb1⟩:=k i b1 hgi
  obtain ⟨b2',hb2⟩:=k j b2 hgj
  exact hi.heap.inj i j b1' b2' l1 l2 hb1 hb2 hne hli hlj hn1 hn2
noncomputable def stepX (X:Ctx U El) (o:Oper) (st:St U El) (k:St U El→Option (Fin U El)):Option (Fin U El) :=
  match o.op with
  | .makeMap ty none => match tdGet X.tds ty, o.dst with
    | some (.amap u),some d=>chk (Nat.blt d X.nt) (k ⟨(d,.mp d) :: (st.forget d).t,(d,.amap u [] []) :: (st.forget d).h⟩)
    | _,_=>stepOp X o st k
  | .lookup ty m ix ok => match tdGet X.tds ty, oget st.t m, o.dst with
    | some (.amap u), .mp id, some d => match hget st.h id with
      | some (.amap u' ks cs) => chk (decide (u' = u) && (X.E.kok u' && Nat.blt d X.nt)) (match decV X.E u' (oget st.t ix) with
        | some x => match midx (X.E.keq u') ks x with
          | some i => match cs[i]? with
            | some c=>k ⟨(d,bif ok then .tup [c,.bool true] else c) :: st.t,st.h⟩
            | none=>none
          | none=>k ⟨(d,bif ok then .tup [.nilp,.bool false] else .nilp) :: st.t,st.h⟩
        | none=>none)
      | _=>none
    | _,_,_=>stepOp X o st k
  | .mapUpdate ty m ix x => match tdGet X.tds ty, oget st.t m, o.dst with
    | some (.amap u), .mp id, none => match hget st.h id with
      | some (.amap u' ks cs) => chk (decide (u' = u) && X.E.kok u') (match decV X.E u' (oget st.t ix) with
        | some y => match midx (X.E.keq u') ks y with
          | some i=>k ⟨st.t,hset st.h id (.amap u' (ks.set i y) (cs.set i (oget st.t x)))⟩
          | none=>k ⟨st.t,hset st.h id (.amap u' (ks++[y]) (cs++[oget st.t x]))⟩
        | none=>none)
      | _=>none
    | _,_,_=>stepOp X o st k
  | _=>stepOp X o st k
theorem put_value {av:AV U El} {v:Value} (hi:Inv X B S0 w0 S ρ st a w) (hd:o.dst=some d) (hlt:d < X.nt) (hr:Rel X.E S ρ w av v):Inv X B S0 w0 S ρ ⟨(d,av) :: st.t,st.h⟩ (a.put o.dst v) w:=by
 refine ⟨by rw [hd]; exact hi.defers,by rw [hd]; simp [Act.put,hi.size],hi.below,hi.hB,hi.s0,hi.s1,hi.g0,?_,hi.heap⟩
 have:=tmps_put (d:=o.dst) (v:=v) (av:=av) (fun e he=>by rw [hi.size]; rw [hd] at he; cases he; exact hlt) hi.tmps hr
 rw [hd] at this ⊢
 exact this
theorem stepX_sound {k : St U El → Option (Fin U El)} (hX : CtxOk P X) (hM : MOk P X) (hi : Inv X B S0 w0 S ρ st a w) (hv : stepX X o st k = some r) {next : Act → World → Prop} {Q : Exit → Act → World → Prop}
    (hn:∀ st' a' w',StRel X B S0 w0 st' a' w'→k st'=some r→next a' w'):o.wp P a w next Q:=by
  unfold stepX at hv
  split at hv
  · rename_i ty ho
    split at hv
    · rename_i u d htd hd
      obtain ⟨hck,hk⟩:=chk_some hv
      have hi0:=hi.forget hX d
      have hdone:=op_makeAmap (P:=P) (X:=X) (a:=a) (d:=d) (u:=u) ho hi0.heap.lt (ρ:=ρ.del d) (by simp [Rho.del])
      refine hdone next Q fun v w' S' ρ' hst hr hN hids hρ=>hn ⟨(d,.mp d) :: (st.forget d).t,(d,.amap u [] []) :: (st.forget d).h⟩ _ _ ⟨S',ρ',?_⟩ hk
      have:=hi0.put (dst:=o.dst) (out:=⟨.mp d,[(d,.amap u [] [])]⟩) (fun e he=>by rw [hd] at he; cases he; exact Nat.le_of_ble_eq_true hck) hst hr hN (fun id b hg=>by
        have:=hids id b hg
        simp only [newIds,ho,List.mem_singleton] at this
        subst this
        simp [Rho.del])
      rw [hd] at this ⊢
      exact this
    · exact stepOp_sound hX hM hi hv hn
  · rename_i ty m ix ok ho
    split at hv
    · rename_i u id d htd hm hd
      split at hv
      · rename_i u' ks cs hg
        obtain ⟨hck,hv1⟩:=chk_some hv
        simp only [Bool.and_eq_true,decide_eq_true_eq] at hck
        obtain ⟨rfl,h3,h4⟩:=hck
        have hdn:d < X.nt:=Nat.le_of_ble_eq_true h4
        obtain ⟨vt,e,hu,hue,inf,hinf,hz⟩:∃ v e,P.underlying ty=some (.map (X.E.tid u') v)∧P.underlying v=some (.pointer e)∧∃ i,P.info? v=some i∧i.zero=some (.pointer none):=hX.td _ _ htd
        have hzv:(zeroValue vt).run P w=.ok (.pointer none) w:=by simp [zeroValue,typeInfo,hinf,hz]
        split at hv1
        · rename_i x hx
          have hmr:Rel X.E S ρ w (oget st.t m) (a.eval m):=Rel.oget fun i _=>hi.tmps i
          have hir:Rel X.E S ρ w (oget st.t ix) (a.eval ix):=Rel.oget fun i _=>hi.tmps i
          rw [hm] at hmr
          obtain ⟨l,ents,clock,hl,hq,_,_,_,hh,hsz,aA,hent⟩:=amp_rel hmr hi.heap hg
          have hkey:=decV_rel hX.u hx hir
          have K:=hX.u.key _ h3
          have fin:∀ (av:AV U El) (y:Value) (b:Bool),(Instr.lookup ty (a.eval m) (a.eval ix) ok).run P w = .ok (if ok then .tuple #[y,.bool b] else y) w→Rel X.E S ρ w av y→k ⟨(d,bif ok then .tup [av,.bool b] else av) :: st.t,st.h⟩=some r→o.wp P a w next Q:=fun av y b hrun hy hk=>by
            unfold Oper.wp
            have:(execOp a.eval o).run P w=.ok (.value (if ok then .tuple #[y,.bool b] else y)) w:=by simp [execOp,ho,hrun]
            rw [this]
            show next (a.put o.dst _) w
            refine hn _ _ _ ⟨S,ρ,put_value hi hd hdn ?_⟩ hk
            cases ok with
            | false=>exact hy
            | true =>
              refine .tup _ _ rfl fun j c v' hc hv=>?_
              match j,hc,hv with
              | 0,hc,hv=>cases hc; cases hv; exact hy
              | 1,hc,hv=>cases hc; cases hv; exact .bool b
          rcases aent_find K hsz aA hent hkey with ⟨hf,hmi⟩ | ⟨j,e,y,c,hf,hmi,he,hy,hc,_,_,hr2⟩
          · rw [hmi] at hv1
            refine fin .nilp (.pointer none) false ?_ .nilp hv1
            simp [Instr.lookup,run_underlying hu,hq,MapKept.run_getObj_map hh,K.check _ hkey,hf,hzv]
          · rw [hmi] at hv1
            simp only [hc] at hv1
            refine fin c e.val true ?_ hr2 hv1
            simp [Instr.lookup,run_underlying hu,hq,MapKept.run_getObj_map hh,K.check _ hkey,hf]
        · cases hv1
      · cases hv
    · exact stepOp_sound hX hM hi hv hn
  · rename_i ty m ix x ho
    split at hv
    · rename_i u id htd hm hd
      split at hv
      · rename_i u' ks cs hg
        obtain ⟨hck,hv1⟩:=chk_some hv
        simp only [Bool.and_eq_true,decide_eq_true_eq] at hck
        obtain ⟨rfl,h3⟩:=hck
        obtain ⟨vt,e,hu,hue,inf,hinf,hz⟩:∃ v e,P.underlying ty=some (.map (X.E.tid u') v)∧P.underlying v=some (.pointer e)∧∃ i,P.info? v=some i∧i.zero=some (.pointer none):=hX.td _ _ htd
        split at hv1
        · rename_i y hy
          have hmr:Rel X.E S ρ w (oget st.t m) (a.eval m):=Rel.oget fun i _=>hi.tmps i
          have hir:Rel X.E S ρ w (oget st.t ix) (a.eval ix):=Rel.oget fun i _=>hi.tmps i
          have hxr:Rel X.E S ρ w (oget st.t x) (a.eval x):=Rel.oget fun i _=>hi.tmps i
          rw [hm] at hmr
          obtain ⟨l,ents,clock,hl,hq,_,_,_,hh,hsz,aA,hent⟩:=amp_rel hmr hi.heap hg
          have hkey:=decV_rel hX.u hy hir
          have K:=hX.u.key _ h3
          have fin:∀ {ks':List (El u')} {cs':List (AV U El)} {ents':Array MapEntry} {clock':Nat},(Instr.mapUpdate ty (a.eval m) (a.eval ix) (a.eval x)).run P w = .ok () { w with heap:=w.heap.setIfInBounds l.b (.map ents' clock') }→ents'.size=ks'.length→ents'.size=cs'.length →
              (∀ (i:Nat) (e:MapEntry) (y:El u') (c:AV U El),ents'[i]? = some e→ks'[i]? = some y→cs'[i]? = some c→ERel X.E S ρ w u' y e.key∧Rel X.E S ρ w c e.val)→k ⟨st.t,hset st.h id (.amap u' ks' cs')⟩=some r→o.wp P a w next Q:=by
            intro ks' cs' ents' clock' hrun hs1 hs2 hent' hk
            unfold Oper.wp
            rw [show (execOp a.eval o)=(do Instr.mapUpdate ty (a.eval m) (a.eval ix) (a.eval x); pure .skip) by simp [execOp,ho]]
            simp only [Sem.run_bind,hrun,Result.andThen_ok,Sem.run_pure]
            show next (a.put o.dst undef) _
            rw [hd]
            exact hn _ _ _ ⟨S,ρ,hi.setAmap (clock':=clock') hg hl hh hs1 hs2 hent'⟩ hk
          rcases aent_find K hsz aA hent hkey with ⟨hf,hmi⟩ | ⟨j,e,y',c,hf,hmi,he,hy',hc,hkq,hr1,hr2⟩
          · rw [hmi] at hv1
            refine fin (ents':=ents.push { key:=a.eval ix,val:=a.eval x,born:=clock }) (clock':=clock+1) ?_ (by simp [hsz]) (by simp [aA]) (fun i e p c he hpi hci=>?_) hv1
            · simp [Instr.mapUpdate,run_underlying hu,hq,MapKept.run_getObj_map hh,K.check _ hkey,hf,MapKept.run_setObj_map _ hh]
            · rw [Array.getElem?_push] at he
              by_cases hi':i=ents.size
              · rw [if_pos hi'] at he
                rw [hi',hsz,List.getElem?_append_right (Nat.le_refl _)] at hpi
                rw [hi',aA,List.getElem?_append_right (Nat.le_refl _)] at hci
                simp at hpi hci he
                subst hpi he hci
                exact ⟨hkey,hxr⟩
              · rw [if_neg hi'] at he
                have hlt:=(Array.getElem?_eq_some_iff.1 he).1
                rw [List.getElem?_append_left (by rw [← hsz]; exact hlt)] at hpi
                rw [List.getElem?_append_left (by rw [← aA]; exact hlt)] at hci
                exact hent i e p c he hpi hci
          · rw [hmi] at hv1
            have hjl:j < ents.size:=(Array.getElem?_eq_some_iff.1 he).1
            refine fin (ents':=ents.modify j fun e=>{ e with key:=a.eval ix,val:=a.eval x }) (clock':=clock) ?_ (by simp [hsz]) (by simp [aA]) (fun i e' p' c' he' hpi hci=>?_) hv1
            · simp [Instr.mapUpdate,run_underlying hu,hq,MapKept.run_getObj_map hh,K.check _ hkey,hf,he,K.stays hkey hr1 hkq,MapKept.run_setObj_map _ hh]
            · rw [Array.getElem?_modify] at he'
              by_cases hij:j=i
              · subst hij
                rw [if_pos rfl,he] at he'
                rw [List.getElem?_set_self (by rw [← hsz]; exact hjl)] at hpi
                rw [List.getElem?_set_self (by rw [← aA]; exact hjl)] at hci
                cases hpi; cases hci; cases he'
                exact ⟨hkey,hxr⟩
              · rw [if_neg hij] at he'
                rw [List.getElem?_set_ne hij] at hpi hci
                exact hent i e' p' c' he' hpi hci
        · cases hv1
      · cases hv
    · exact stepOp_sound hX hM hi hv hn
  · exact stepOp_sound hX hM hi hv hn
noncomputable def runOpsC (X:Ctx U El) (dsts:List (Option Nat)):List Oper→St U El→(St U El→Option (Fin U El))→Option (Fin U El)
  | [],st,k=>k st
  | o :: os, st, k =>
    match guardOf dsts o with
    | none=>withTest o st.t fun t=>preShare o ⟨t,st.h⟩ fun st1=>stepX X o (freshOp o st1) fun st'=>runOpsC X dsts os st' k
    | some (some g,want)=>gbranch st.t g want fun t b =>
        bif Bool.xor b want then runOpsC X dsts os ⟨match o.dst with | some d=>(d,.tup []) :: t | none=>t,st.h⟩ k
        else withTest o t fun t'=>preShare o ⟨t',st.h⟩ fun st1=>stepX X o (freshOp o st1) fun st'=>runOpsC X dsts os st' k
    | some (none,_)=>none
theorem runOpsC_tail {k : St U El → Option (Fin U El)} {ops : Array Oper} {Q : Exit → Act → World → Prop} {tail : List Nat} {more : List Oper} (hX : CtxOk P X) (hM : MOk P X) (hN : ∀ st' a' w', StRel X B S0 w0 st' a' w' → k st' = some r → wpOps P ops Q tail a' w') :
    ∀ (os:List Oper) (j:Nat) (st:St U El) (a:Act) (w:World),ops.toList.drop j=os++more→StRel X B S0 w0 st a w→(∀ o∈os,∀ e,o.dst=some e→e < X.nt)→runOpsC X (ops.toList.map (·.dst)) os st k=some r→wpOps P ops Q (List.range' j os.length++tail) a w:=by
  intro os
  induction os with
  | nil=>intro j st a w hd hs _ hv; exact hN st a w hs hv
  | cons o os ih =>
    intro j st a w hd hs hdst hv
    have ho:ops[j]? = some o:=by
      have:(ops.toList.drop j)[0]? = some o:=by rw [hd]; rfl
      rw [List.getElem?_drop] at this
      simpa using this
    have hd':ops.toList.drop (j+1)=os++more:=by
      rw [← List.drop_drop,hd]; rfl
    simp only [List.length_cons,List.range'_succ,List.cons_append]
    rw [wpOps_cons]
    unfold wpOp
    rw [ho]
    simp only [runOpsC] at hv
    have hdo:∀ e,o.dst=some e→e < X.nt:=hdst o (by simp)
    have next:∀ st' a' w',StRel X B S0 w0 st' a' w'→runOpsC X (ops.toList.map (·.dst)) os st' k=some r→wpOps P ops Q (List.range' (j+1) os.length++tail) a' w' :=
      fun st' a' w' hs' hv'=>ih (j+1) st' a' w' hd' hs' (fun o ho=>hdst o (by simp [ho])) hv'
    have doit:∀ (t:Tmps U El),StRel X B S0 w0 ⟨t,st.h⟩ a w→withTest o t (fun t=>preShare o ⟨t,st.h⟩ fun st1=>stepX X o (freshOp o st1) fun st'=>runOpsC X (ops.toList.map (·.dst)) os st' k)=some r→o.wp P a w (wpOps P ops Q (List.range' (j+1) os.length++tail)) Q:=by
      intro t hst hw
      obtain ⟨t',hk,hor⟩:=withTest_some hw
      have hst':StRel X B S0 w0 ⟨t',st.h⟩ a w:=by
        rcases hor with rfl | ⟨g,b,hg,rfl⟩
        · exact hst
        · exact hst.refine hg
      obtain ⟨bA,hs2,hk2⟩:=preShare_sound hX hst' hk
      obtain ⟨S,ρ,hi⟩:=freshOp_sound hX o hs2
      exact stepX_sound hX hM hi hk2 next
    unfold guardOf at hv
    cases hgd:o.guard with
    | none =>
      rw [hgd] at hv
      simp only at hv
      have hw:Region.wanted o (yielded ops a.tmps)=true:=by simp [Region.wanted,hgd]
      simp only [hw,if_true]
      exact .inl (doit st.t hs hv)
    | some jw =>
      obtain ⟨gj,want⟩:=jw
      rw [hgd] at hv
      simp only at hv
      split at hv
      · rename_i h; cases h
      · rename_i g want' heq
        simp only [Option.some.injEq,Prod.mk.injEq] at heq
        obtain ⟨hdg,rfl⟩:=heq
        have skip:∀ (t:Tmps U El),StRel X B S0 w0 ⟨t,st.h⟩ a w→runOpsC X (ops.toList.map (·.dst)) os ⟨match o.dst with | some d=>(d,.tup []) :: t | none=>t,st.h⟩ k=some r→wpOps P ops Q (List.range' (j+1) os.length++tail) (a.put o.dst undef) w:=by
          intro t hs2 hv'
          refine next _ _ _ ?_ hv'
          obtain ⟨S,ρ,hi2⟩:=hs2
          refine ⟨S,ρ,by cases o.dst<;>exact hi2.defers,by cases o.dst<;>simp [Act.put,hi2.size],hi2.below,hi2.hB,hi2.s0,hi2.s1,hi2.g0,?_,hi2.heap⟩
          have:=tmps_put (d:=o.dst) (v:=undef) (av:=AV.tup []) (fun e he=>by rw [hi2.size]; exact hdo e he) hi2.tmps undef_rel
          cases hdd:o.dst<;>rw [hdd] at this<;>exact this
        rcases gbranch_some hv with ⟨b,hb,hv'⟩ | ⟨hb,hv'⟩
        · have hs2 := hs.refine hb
          obtain ⟨S,ρ,hi⟩:=hs
          have hvb:a.tmps.getD g undef = .bool b:=by
            have:=hi.tmps g
            rw [hb] at this
            generalize a.tmps.getD g undef=q at this
            cases this; rfl
          have hw:=guard_some hgd hdg hvb
          cases hx:Bool.xor b want with
          | true =>
            rw [hx] at hv' hw
            simp only [cond] at hv'
            simp only [hw,Bool.not_true,Bool.false_eq_true,if_false]
            exact skip _ hs2 hv'
          | false =>
            rw [hx] at hv' hw
            simp only [cond] at hv'
            simp only [hw,Bool.not_false,if_true]
            exact .inl (doit _ hs2 hv')
        · have hvu : a.tmps.getD g undef = .tuple #[] := by
            obtain ⟨S,ρ,hi⟩:=hs
            have:=hi.tmps g
            rw [hb] at this
            exact rel_undef this
          have hw:=guard_undef hgd hdg hvu
          have hx:Bool.xor (!want) want=true:=by cases want<;>rfl
          rw [hx] at hv'
          simp only [cond] at hv'
          simp only [hw,Bool.false_eq_true,if_false]
          exact skip _ hs hv'
      · cases hv
theorem runOpsC_sound {k:St U El→Option (Fin U El)} {ops:Array Oper} {Q:Exit→Act→World→Prop} (hX:CtxOk P X) (hM:MOk P X) (hN:∀ st' a' w',StRel X B S0 w0 st' a' w'→k st'=some r→Q .normal a' w')
  (st:St U El) (a:Act) (w:World) (hs:StRel X B S0 w0 st a w) (hd:∀ o∈ops.toList,∀ e,o.dst=some e→e < X.nt) (hv:runOpsC X (ops.toList.map (·.dst)) ops.toList st k=some r):wpOps P ops Q (List.range' 0 ops.toList.length) a w:=by
 have:=runOpsC_tail (ops:=ops) (tail:=[]) (more:=[]) hX hM hN ops.toList 0 st a w (by simp) hs hd hv
 simpa using this
def partIds (h:Heap U El):AV U El→List Nat
 | .ful j=>match hget h j with | some (.rows _ _)=>[j] | _=>[]
 | _=>[]
def touch (X : Ctx U El) (o : Oper) (t : Tmps U El) (h : Heap U El) : List Nat :=
  match o.op with
  | .store _ p _ => match oget t p with
    | .ptr j _=>[j]
    | .row j _ _=>[j]
    | _=>[]
  | .mapUpdate _ m _ _ => match oget t m with
    | .mp j=>[j]
    | _=>[]
  | .buildSlice _ _ ps => ps.toList.flatMap fun p => match oget t p.2 with
    | .agg cs=>cs.flatMap (partIds h)
    | v=>partIds h v
  | .call ⟨.builtin .append, as, _⟩ => match as.toList with
    | s :: _ => match oget t s with
      | .ful j=>[j]
      | _=>[]
    | []=>[]
  | .call ⟨.value f, as, _⟩ => match oget t f with
    | .fn g first caps => match X.dspec g with
      | some _=>reach h 40 0 (AV.nms.nmsL (first++as.toList.map (oget t)++caps) [])
      | none=>[]
    | _=>[]
  | _=>[]
def codeWs (j:Nat):List Nat→List (AV U El)
 | []=>[]
 | id :: ids=>.agg [.int .i64 j,.int .i64 id] :: codeWs j ids
def readWs:List (AV U El)→List (Nat×Nat)
 | .agg [.int _ j,.int _ id] :: l=>(j.toNat,id.toNat) :: readWs l
 | _=>[]
def wsRun (X : Ctx U El) (dsts : List (Option Nat)) : List Oper → Nat → Tmps U El → Heap U El → List (AV U El) → Option (Fin U El)
  | [],_,_,_,acc=>some (.tup acc,[])
  | o :: os, j, t, h, acc =>
    let go:=fun (t':Tmps U El)=>drawOp X o (fun _=>true) (touch X o t' h) t' h fun t2 h2=>wsRun X dsts os (j+1) t2 h2 (acc++codeWs j (touch X o t' h))
    match guardOf dsts o with
    | none=>withTest o t go
    | some (some g,want)=>gbranch t g want fun t1 b =>
        bif Bool.xor b want then wsRun X dsts os (j+1) (match o.dst with | some d=>(d,.tup []) :: t1 | none=>t1) h acc
        else withTest o t1 go
    | some (none,_)=>none
def wsOfRun:Option (Fin U El)→List (Nat×Nat)
 | some (.tup l,_)=>readWs l
 | _=>[]
def tidyT (nt:Nat) (t:Tmps U El):Tmps U El:=keepT t (List.range nt)
def loopC (tidy:St U El→St U El) (body:St U El→Kont U El→Option (Fin U El)):Nat→Kont U El
 | 0,_=>none
 | n+1,st=>body (tidy st) (loopC tidy body n)
noncomputable def cex (X:Ctx U El):Code→St U El→Kont U El→(Nat→Kont U El)→Kont U El→Option (Fin U El)
  | .skip,st,K,_,_=>K st
  | .region _ ops dr, st, K, _, _ =>
    bif dr then
      let st0:=freshOps ops.toList st
      let ws:=wsOfRun (wsRun X (ops.toList.map (·.dst)) ops.toList 0 (st0.forgets (drawIds ops.toList)).t (st0.forgets (drawIds ops.toList)).h [])
      bif drawOk X.nt ops.toList ws then drawOps X (ops.toList.map (·.dst)) (safeB (ancs ops.toList []) (evsOf ops.toList ws)) ws ops.toList 0 (st0.forgets (drawIds ops.toList)).t (st0.forgets (drawIds ops.toList)).h K
      else none
    else chk (ops.toList.all fun o=>match o.dst with | some d=>Nat.blt d X.nt | none=>true) (runOpsC X (ops.toList.map (·.dst)) ops.toList st K)
  | .seq a b,st,K,E,R=>cex X a st (fun st'=>cex X b st' K E R) E R
  | .cond c a b, st, K, E, R => match c with
    | .tmp g=>branch st.t g fun t bv=>bif bv then cex X a ⟨t,st.h⟩ K E R else cex X b ⟨t,st.h⟩ K E R
    | _=>none
  | .block id b,st,K,E,R=>cex X b st K (Eblk id K E) R
  | .loop b,st,_,E,R=>loopC (fun st=>⟨tidyT X.nt st.t,st.h⟩) (fun st' K'=>cex X b st' K' E R) X.fuel st
  | .exit id,st,_,E,_=>E id st
  | .ret,st,_,_,R=>R st
  | _,_,_,_,_=>none
theorem tget_keepT (t:Tmps U El):∀ (l:List Nat) (i:Nat),tget (keepT t l) i=if i∈l then tget t i else .any:=by
  intro l
  induction l with
  | nil=>intro i; simp [keepT,tget]
  | cons s l ih =>
    intro i
    simp only [keepT,tget]
    by_cases e:s=i
    · subst e; rw [Nat.beq_refl]; simp
    · rw [nbeq_ne e, cond_false, ih]
      have:¬ i=s:=fun h=>e h.symm
      simp [this]
theorem tidy_sound (nt:Nat) (hs:StRel X B S0 w0 st a w):StRel X B S0 w0 ⟨tidyT nt st.t,st.h⟩ a w:=by
 obtain ⟨S,ρ,hi⟩:=hs
 refine ⟨S,ρ,hi.defers,hi.size,hi.below,hi.hB,hi.s0,hi.s1,hi.g0,fun i=>?_,hi.heap⟩
 show Rel X.E S ρ w (tget (tidyT nt st.t) i) _
 unfold tidyT
 rw [tget_keepT]
 split
 ·exact hi.tmps i
 ·exact .any _
theorem cex_sound (hX : CtxOk P X) (hM : MOk P X) : ∀ (c : Code) (st : St U El) (K : Kont U El) (E : Nat → Kont U El) (R : Kont U El) (a : Act) (w : World) (Q : Exit → Act → World → Prop),
    (∀ st' a' w',StRel X B S0 w0 st' a' w'→K st'=some r→Q .normal a' w')→(∀ i st' a' w',StRel X B S0 w0 st' a' w'→E i st'=some r→Q (.exit i) a' w')→(∀ st' a' w',StRel X B S0 w0 st' a' w'→R st'=some r→Q .ret a' w') →
    StRel X B S0 w0 st a w→cex X c st K E R=some r→c.wp P Q a w:=by
  intro c
  induction c with
  | skip=>intro st K E R a w Q hK hE hR hs hv; exact wp_skip (hK st a w hs hv)
  | region id ops dr =>
    intro st K E R a w Q hK hE hR hs hv
    simp only [cex] at hv
    cases dr with
    | true =>
      simp only [cond] at hv
      split at hv
      · rename_i hok
        exact draw_sound hX (freshOps_sound hX ops.toList st hs) hok hK hv
      · cases hv
    | false =>
      simp only [cond] at hv
      obtain ⟨h1,h2⟩:=chk_some hv
      refine wp_region ?_
      have:=runOpsC_sound (ops:=ops) hX hM hK st a w hs (fun o ho e he=>by
        have:=List.all_eq_true.1 h1 o ho
        rw [he] at this
        exact Nat.le_of_ble_eq_true this) h2
      rwa [Array.length_toList,← List.range_eq_range'] at this
  | seq x y ihx ihy =>
    intro st K E R a w Q hK hE hR hs hv
    simp only [cex] at hv
    exact wp_seq (ihx st _ E R a w _ (fun st' a' w' hs' hv'=>ihy st' K E R a' w' Q hK hE hR hs' hv') (fun i st' a' w' hs' hv'=>hE i st' a' w' hs' hv') (fun st' a' w' hs' hv'=>hR st' a' w' hs' hv') hs hv)
  | cond c x y ihx ihy =>
    intro st K E R a w Q hK hE hR hs hv
    simp only [cex] at hv
    cases c with
    | tmp g =>
      obtain ⟨b,hb,hv'⟩:=branch_some hv
      have hs2:=hs.refine hb
      have hval:a.eval (.tmp g) = .bool b:=by
        obtain ⟨S,ρ,hi⟩:=hs
        have:=hi.tmps g
        rw [hb] at this
        show a.tmps.getD g undef=_
        generalize a.tmps.getD g undef=q at this
        cases this; rfl
      refine wp_cond hval ?_
      cases b with
      | true=>exact ihx _ K E R a w Q hK hE hR hs2 hv'
      | false=>exact ihy _ K E R a w Q hK hE hR hs2 hv'
    | _=>cases hv
  | block id b ih =>
    intro st K E R a w Q hK hE hR hs hv
    simp only [cex] at hv
    refine wp_block (ih st K _ R a w _ (fun st' a' w' hs' hv'=>hK st' a' w' hs' hv') (fun i st' a' w' hs' hv'=>?_) (fun st' a' w' hs' hv'=>hR st' a' w' hs' hv') hs hv)
    simp only [Exit.inBlock]
    unfold Eblk at hv'
    by_cases e:i=id
    · subst e
      rw [Nat.beq_refl] at hv'
      rw [if_pos rfl]
      exact hK st' a' w' hs' hv'
    · rw [nbeq_ne e] at hv'
      rw [if_neg e]
      exact hE i st' a' w' hs' hv'
  | loop b ih =>
    intro st K E R a w Q hK hE hR hs hv
    simp only [cex] at hv
    refine wp_loop_rounds X.fuel ?_
    have key:∀ (m:Nat) (st:St U El) (a:Act) (w:World),StRel X B S0 w0 st a w→loopC (fun st=>⟨tidyT X.nt st.t,st.h⟩) (fun st' K'=>cex X b st' K' E R) m st=some r→Code.rounds P b Q m a w:=by
      intro m
      induction m with
      | zero=>intro st a w _ hv; cases hv
      | succ m ihm =>
        intro st a w hs hv
        simp only [loopC] at hv
        exact ih _ _ E R a w _ (fun st' a' w' hs' hv'=>ihm st' a' w' hs' hv') (fun i st' a' w' hs' hv'=>hE i st' a' w' hs' hv') (fun st' a' w' hs' hv'=>hR st' a' w' hs' hv') (tidy_sound _ hs) hv
    exact key X.fuel st a w hs hv
  | exit id=>intro st K E R a w Q hK hE hR hs hv; exact wp_exit (hE id st a w hs hv)
  | ret=>intro st K E R a w Q hK hE hR hs hv; exact wp_ret (hR st a w hs hv)
  | _=>intro st K E R a w Q hK hE hR hs hv; simp [cex] at hv
def QuietD (P:Program) (g n:Nat):Prop:=(∀ as w,(callFunc g as).run P w=.ok (.enter g as) w)∧∀ (vs:Array Value) (w:World),vs.size=n→CallsD P g vs .returning w fun e u' w'=>(∃ v,e=.returned v)∧u'=.returning∧w'=w
def lastDefer (ops : List Oper) : Option (List Oper × Operand) :=
  match ops.reverse with
  | []=>none
  | o :: rest => match o.op, o.guard, o.dst with
    | .defer ⟨.value f,as,_⟩,none,none=>bif as.isEmpty then some (rest.reverse,f) else none
    | _,_,_=>none
theorem lastDefer_some {ops : List Oper} {pre : List Oper} {f : Operand} (h : lastDefer ops = some (pre, f)) : ∃ o ts, ops = pre ++ [o] ∧ o.op = .defer ⟨.value f, #[], ts⟩ ∧ o.guard = none ∧ o.dst = none := by
  unfold lastDefer at h
  split at h
  · cases h
  · rename_i o rest hr
    split at h
    · rename_i f' as ts ho hg hd
      cases he:as.isEmpty with
      | false=>rw [he] at h; cases h
      | true =>
        rw [he,cond_true] at h
        cases h
        have:as=#[]:=Array.eq_empty_of_size_eq_zero (by simpa using he)
        subst this
        refine ⟨o,ts,?_,ho,hg,hd⟩
        have:=congrArg List.reverse hr
        simpa using this
    · cases h
def quietIn:List (Nat×Nat)→AV U El→Bool
 | [],_=>false
 | (g,n) :: l,.fn f fs cs=>(Nat.beq f g&&Nat.beq (fs.length+cs.length) n)||quietIn l (.fn f fs cs)
 | _ :: l,a=>quietIn l a
noncomputable def cexD (X:Ctx U El) (qd:List (Nat×Nat)) (K:Kont U El):Code→St U El→Option (Fin U El)
  | .seq a b, st => match a with
    | .region _ ops dr => match lastDefer ops.toList with
      | some (pre,f)=>chk (!dr&&pre.all fun o=>match o.dst with | some d=>Nat.blt d X.nt | none=>true) (runOpsC X (ops.toList.map (·.dst)) pre st fun st'=>chk (quietIn qd (oget st'.t f)) (cex X b st' K (fun _ _=>none) K))
      | none=>cex X a st (fun st'=>cexD X qd K b st') (fun _ _=>none) K
    | _=>cex X a st (fun st'=>cexD X qd K b st') (fun _ _=>none) K
  | c,st=>cex X c st K (fun _ _=>none) K
theorem quietIn_some : ∀ {qd : List (Nat × Nat)} {a : AV U El}, quietIn qd a = true → ∃ f fs cs, a = .fn f fs cs ∧ (f, fs.length + cs.length) ∈ qd := by
  intro qd
  induction qd with
  | nil=>intro a h; cases h
  | cons p l ih =>
    intro a h
    obtain ⟨g,n⟩:=p
    cases a with
    | fn f fs cs =>
      simp only [quietIn,Bool.or_eq_true,Bool.and_eq_true] at h
      rcases h with ⟨h1,h2⟩ | h
      · exact ⟨f,fs,cs,rfl,by rw [Nat.eq_of_beq_eq_true h1,Nat.eq_of_beq_eq_true h2]; simp⟩
      · obtain ⟨f', fs', cs', e, hm⟩ := ih h
        exact ⟨f',fs',cs',e,by simp [hm]⟩
    | _=>simp only [quietIn] at h; obtain ⟨f',fs',cs',e,hm⟩:=ih h; exact ⟨f',fs',cs',e,by simp [hm]⟩
theorem cexD_sound {qd : List (Nat × Nat)} {K : Kont U El} {Q : Exit → Act → World → Prop} (hX : CtxOk P X) (hM : MOk P X) (hq : ∀ p ∈ qd, QuietD P p.1 p.2)
    (hK:∀ (D:List Deferred) st' a' w',(D=[]∨∃ g n vf vc,QuietD P g n∧vf.size+vc.size=n∧D=[{ target:=.fn (.func g) vc,args:=vf }])→StRel X ⟨B.own,B.pin,D⟩ S0 w0 st' a' w'→K st'=some r→Q .normal a' w'∧Q .ret a' w') :
    ∀ (c:Code) (st:St U El) (a:Act) (w:World),StRel X ⟨B.own,B.pin,[]⟩ S0 w0 st a w→cexD X qd K c st=some r→c.wp P Q a w:=by
  have plain:∀ (c:Code) (st:St U El) (a:Act) (w:World),StRel X ⟨B.own,B.pin,[]⟩ S0 w0 st a w→cex X c st K (fun _ _=>none) K=some r→c.wp P Q a w:=fun c st a w hs hv =>
    cex_sound hX hM c st _ _ _ a w Q (fun st' a' w' hs' hk=>(hK [] st' a' w' (.inl rfl) hs' hk).1) (fun _ _ _ _ _ h=>by cases h) (fun st' a' w' hs' hk=>(hK [] st' a' w' (.inl rfl) hs' hk).2) hs hv
  intro c
  induction c with
  | seq x y ihx ihy =>
    intro st a w hs hv
    have gen:cex X x st (fun st'=>cexD X qd K y st') (fun _ _=>none) K=some r→(Code.seq x y).wp P Q a w:=fun hv =>
      wp_seq (cex_sound hX hM x st _ _ _ a w _ (fun st' a' w' hs' hk=>ihy st' a' w' hs' hk) (fun _ _ _ _ _ h=>by cases h) (fun st' a' w' hs' hk=>(hK [] st' a' w' (.inl rfl) hs' hk).2) hs hv)
    simp only [cexD] at hv
    split at hv
    · rename_i id ops dr
      split at hv
      · rename_i pre f hl
        obtain ⟨hck,hv2⟩:=chk_some hv
        clear hv gen
        simp only [Bool.and_eq_true,Bool.not_eq_true'] at hck
        obtain ⟨hdr,hdst⟩:=hck
        subst hdr
        obtain ⟨o,ts,hops,hop,hgd,hdo⟩:=lastDefer_some hl
        refine wp_seq (wp_region ?_)
        have hsz:ops.size=pre.length+1:=by rw [← Array.length_toList,hops]; simp
        have hlast:ops[pre.length]? = some o:=by rw [← Array.getElem?_toList,hops]; simp
        have key:=runOpsC_tail (P:=P) (X:=X) (B:=⟨B.own,B.pin,[]⟩) (S0:=S0) (w0:=w0) (r:=r) (ops:=ops) (Q:=Exit.then (y.wp P Q) Q) (tail:=[pre.length]) (more:=[o]) (k:=fun st'=>chk (quietIn qd (oget st'.t f)) (cex X y st' K (fun _ _=>none) K)) hX hM (fun st' a' w' hs' hk=>by
          obtain ⟨hqi,hk⟩:=chk_some hk
          obtain ⟨g,fs,cs,hfe,hmem⟩:=quietIn_some hqi
          obtain ⟨S,ρ,hi⟩:=hs'
          have hf:Rel X.E S ρ w' (oget st'.t f) (a'.eval f):=Rel.oget fun i _=>hi.tmps i
          rw [hfe] at hf
          generalize hqv:a'.eval f=q at hf
          cases hf with
          | fn _ _ _ vf vc hlf hlc _ _ =>
            rw [wpOps_cons]
            unfold wpOp
            rw [hlast]
            have hw:Region.wanted o (yielded ops a'.tmps)=true:=by simp [Region.wanted,hgd]
            simp only [hw,if_true]
            refine .inl ?_
            unfold Oper.wp
            have:(execOp a'.eval o).run P w' = .ok (.defer { target := .fn (.func g) vc,args:=vf }) w':=by
              simp [execOp,hop,resolve,Deferred.ofValue,hqv]
            rw [this,Oper.upon_defer,hdo]
            show y.wp P Q _ w'
            have hdf:a'.defers=[]:=hi.defers
            refine cex_sound (B:=⟨B.own,B.pin,[{ target:=.fn (.func g) vc,args:=vf }]⟩) hX hM y st' _ _ _ _ w' Q (fun bA a2 w2 hs2 hk2=>(hK _ bA a2 w2 (.inr ⟨g,_,vf,vc,hq _ hmem,by rw [hlf,hlc],rfl⟩) hs2 hk2).1) (fun _ _ _ _ _ h=>by cases h) (fun bA a2 w2 hs2 hk2=>(hK _ bA a2 w2 (.inr ⟨g,_,vf,vc,hq _ hmem,by rw [hlf,hlc],rfl⟩) hs2 hk2).2) ⟨S,ρ,?_⟩ hk
            exact ⟨by show _ :: a'.defers=_; rw [hdf],hi.size,hi.below.mono fun _ h=>h,hi.hB,hi.s0,hi.s1,fun w2 h2=>hi.g0 w2 (h2.mono fun _ h=>h),hi.tmps,hi.heap.df' (B:=⟨B.own,B.pin,[]⟩).df _⟩)
          pre 0 st a w (by simpa using hops) hs (fun o' ho' e he=>by
            have:=List.all_eq_true.1 hdst o' ho'
            rw [he] at this
            exact Nat.le_of_ble_eq_true this) hv2
        rw [hsz,List.range_succ,List.range_eq_range']
        exact key
      · exact gen hv
    · exact gen hv
  | _=>intro st a w hs hv; exact plain _ st a w hs hv
def canon:List Nat→Nat→St U El→St U El
 | [],_,st=>st
 | id :: ids,n,st=>bif Nat.beq id n then canon ids (n+1) st else canon ids (n+1) ((st.forget n).rename id n)
theorem canon_sound (hX:CtxOk P X):∀ (ids:List Nat) (n:Nat) (st:St U El),StRel X B S0 w0 st a w→StRel X B S0 w0 (canon ids n st) a w:=by
  intro ids
  induction ids with
  | nil=>intro n st hs; exact hs
  | cons id ids ih =>
    intro n st hs
    unfold canon
    by_cases e:id=n
    · rw [show Nat.beq id n=true by rw [e]; exact Nat.beq_refl n,cond_true]; exact ih _ st hs
    · rw [nbeq_ne e, cond_false]
      obtain ⟨S,ρ,hi⟩:=hs
      obtain ⟨ρ',hi'⟩:=(hi.forget hX n).rename hX e (by simp [Rho.del])
      exact ih _ _ ⟨S,ρ',hi'⟩
def canonAll (res:List Nat) (st:St U El):St U El :=
 let st1:=freshen (fun j=>Nat.blt j 4) (st.h.map (·.1)) st
 let ids:=reach st1.h 200 0 (AV.nms.nmsL (res.map (tget st1.t)) [])
 bif Nat.ble ids.length 4 then (let bA:=canon ids 0 st1; ⟨bA.t,keepH bA.h (List.range ids.length)⟩) else ⟨st1.t,keepH st1.h ids⟩
def retC (res:List Nat) (hids:List Nat) (st:St U El):Option (Fin U El) :=
 bif hids.isEmpty then retM res (canonAll res st) else retM res ⟨st.t,keepH st.h (reach st.h 200 0 (AV.nms.nmsL (res.map (tget st.t)) hids))⟩
def lendAll:List Nat→St U El→(St U El→Option (Fin U El))→Option (Fin U El)
 | [],st,k=>k st
 | s :: l,st,k=>shareSlot st s fun st'=>lendAll l st' k
theorem lendAll_sound (hX:CtxOk P X):∀ (l:List Nat) (st:St U El) (k:St U El→Option (Fin U El)),StRel X B S0 w0 st a w→lendAll l st k=some r→∃ st',StRel X B S0 w0 st' a w∧k st'=some r:=by
  intro l
  induction l with
  | nil=>intro st k hs hv; exact ⟨st,hs,hv⟩
  | cons s l ih =>
    intro st k hs hv
    obtain ⟨st1,h1,hv1⟩:=shareSlot_sound hX hs hv
    exact ih st1 k h1 hv1
noncomputable def runX (X:Ctx U El) (qd:List (Nat×Nat)) (body:Code) (lds:List (Nat×TypeId)) (res shr:List Nat) (hs:Heap U El) (args:List (AV U El)):Option (Fin U El) :=
 lendAll shr ⟨args0 args 0,hs⟩ (cexD X qd (fun st=>loadRes X X.nt lds X.nt st (retC res (hs.map (·.1)))) body)
theorem keepH_sound (l:List Nat) (hs:StRel X B S0 w0 st a w):StRel X B S0 w0 ⟨st.t,keepH st.h l⟩ a w:=by
 obtain ⟨S,ρ,hi⟩:=hs
 exact ⟨S,ρ,hi.defers,hi.size,hi.below,hi.hB,hi.s0,hi.s1,hi.g0,hi.tmps,⟨fun j b hg=>hi.heap.get j b (hget_keep st.h _ j b hg),fun i j b b' l l' hgi hgj=>hi.heap.inj i j b b' l l' (hget_keep st.h _ i b hgi) (hget_keep st.h _ j b' hgj),hi.heap.lt⟩⟩
theorem retC_sound {res hids:List Nat} {r:Fin U El} (hX:CtxOk P X) (hs:StRel X B S0 w0 st a w) (h:retC res hids st=some r):∃ st',StRel X B S0 w0 st' a w∧retM res st'=some r:=by
  unfold retC at h
  cases he:hids.isEmpty with
  | true =>
    rw [he,cond_true] at h
    refine ⟨_,?_,h⟩
    unfold canonAll
    have h1:=freshen_sound hX (fun j=>Nat.blt j 4) (st.h.map (·.1)) st hs
    dsimp only
    generalize freshen (fun j=>Nat.blt j 4) (st.h.map (·.1)) st=st1 at h1
    generalize reach st1.h 200 0 (AV.nms.nmsL (res.map (tget st1.t)) [])=ids
    cases Nat.ble ids.length 4
    · exact keepH_sound _ h1
    · exact keepH_sound _ (canon_sound hX ids 0 st1 h1)
  | false =>
    rw [he,cond_false] at h
    exact ⟨_,keepH_sound _ hs,h⟩
theorem runX_sound {f:FuncId} {fn:Func} {body:Code} {lds:List (Nat×TypeId)} {res shr:List Nat} {args:List (AV U El)} {hs h:Heap U El} {v:AV U El} {qd:List (Nat×Nat)} (hX:CtxOk P X) (hM:MOk P X) (hq:∀ p∈qd,QuietD P p.1 p.2)
    (hf:P.funcs[f]? = some fn) (hb:fn.body=some body) (hnt:fn.ntmps=X.nt) (hres:fn.results=(res.map (rvOf X.nt lds)).toArray) (hargs:args.length≤X.nt)
    (hv:runX X qd body lds res shr hs args=some (v,h)):MCall P X.E f args hs v h:=by
  refine MCall.of_clean fun B S ρ w vs hdf hB hG hH hrel=>?_
  obtain ⟨ow,pn,df⟩:=B
  obtain rfl:df=[]:=hdf
  obtain ⟨B,hBe⟩:∃ B:Bd,B=⟨ow,pn,[]⟩:=⟨_,rfl⟩
  have hdf:B.df=[]:=by rw [hBe]
  rw [← hBe] at hG hH
  rw [← hBe]
  have hB':∀ k,w.heap.size≤k→B.own k:=by rw [hBe]; exact hB
  refine calls_of_wp_defers hf hb ?_
  have hsz:(vs++Array.replicate (fn.ntmps - vs.size) undef).size=X.nt:=by
    have:=hrel.1
    simp; omega
  have h0:StRel X B S w ⟨args0 args 0,hs⟩ { tmps:=vs++Array.replicate (fn.ntmps - vs.size) undef,defers:=[] } w:=by
    refine ⟨S,ρ,hdf.symm,hsz,Fr.refl _ _,hB',fun _ h=>h,fun _ h=>.inl h,hG,fun i=>?_,hH⟩
    show Rel X.E S _ w (tget (args0 args 0) i) _
    rw [args0_get]
    simp only [Nat.zero_le,if_true,Nat.sub_zero]
    cases hc:args[i]? with
    | none=>exact .any _
    | some c =>
      have hi:i < vs.size:=by rw [hrel.1]; exact (List.getElem?_eq_some_iff.1 hc).1
      simp only [Option.getD_some]
      rw [Array.getD_eq_getD_getElem?,Array.getElem?_append_left hi,Array.getElem?_eq_getElem hi]
      exact hrel.2 i c _ hc (Array.getElem?_eq_getElem hi)
  have hret:∀ (D:List Deferred) (X':Ctx U El) (st':St U El) (a':Act) (w':World),X'.E=X.E→StRel X' ⟨B.own,B.pin,D⟩ S w st' a' w'→retM res st'=some (v,h)→∃ v' S' ρ',Ending.returned (resVal a'.tmps res) = .returned v'∧Fr B w w'∧(∀ b,S b→S' b)∧(∀ b,S' b→S b∨B.own b)∧HRel X.E S' ρ' w' B h∧Rel X.E S' ρ' w' v v':=by
    rintro D X' st' a' w' hE ⟨S',ρ',hi⟩ hr
    have hiH:=hi.heap
    have hiT:=hi.tmps
    rw [hE] at hiH hiT
    refine ⟨_,S',ρ',rfl,hi.below.mono fun _ h=>h,hi.s0,hi.s1,?_⟩
    unfold retM at hr
    match res with
    | [t] =>
      simp only [Option.some.injEq,Prod.mk.injEq] at hr
      obtain ⟨rfl,rfl⟩:=hr
      exact ⟨hiH.df',hiT t⟩
    | [] =>
      simp only [Option.some.injEq,Prod.mk.injEq] at hr
      obtain ⟨rfl,rfl⟩:=hr
      exact ⟨hiH.df',.tup _ _ rfl (by simp)⟩
    | t :: u :: l =>
      simp only [Option.some.injEq,Prod.mk.injEq] at hr
      obtain ⟨rfl,rfl⟩:=hr
      refine ⟨hiH.df',.tup _ _ (by simp) fun i c v hc hv=>?_⟩
      simp only [List.getElem?_map,Option.map_eq_some_iff] at hc
      obtain ⟨q,hq,rfl⟩:=hc
      simp only [List.getElem?_toArray,List.getElem?_map,hq,Option.map_some,Option.some.injEq] at hv
      subst hv
      exact hiT q
  have h0':StRel X ⟨B.own,B.pin,[]⟩ S w ⟨args0 args 0,hs⟩ { tmps:=vs++Array.replicate (fn.ntmps - vs.size) undef,defers:=[] } w:=by
    have e:B=⟨B.own,B.pin,[]⟩:=by rw [hBe]
    rw [← e]; exact h0
  obtain ⟨stS,hsS,hvS⟩:=lendAll_sound (r:=(v,h)) hX shr _ _ h0' hv
  refine cexD_sound (B:=B) (r:=(v,h)) hX hM hq (fun D st' a' w' hD hs' hk=>?_) body _ _ _ hsS hvS
  have key:∃ x,(results fn a'.tmps).run P w' = .ok x w'∧∃ v' S' ρ',Ending.returned x = .returned v'∧Fr B w w'∧(∀ b,S b→S' b)∧(∀ b,S' b→S b∨B.own b)∧HRel X.E S' ρ' w' B h∧Rel X.E S' ρ' w' v v':=by
    obtain ⟨S1,ρ1,hi⟩:=hs'
    obtain ⟨vals,bA,l1,l2,l3,l4,l5⟩:=loadRes_sound lds X st' a' hX hi (Nat.le_refl _) hk
    obtain ⟨st3,n1,n2⟩:=retC_sound l4 ⟨S1,ρ1,l5⟩ l2
    exact ⟨_,run_resultsC hres hi.size l1 l3,hret D { X with nt:=X.nt+lds.length } st3 _ w' rfl n1 n2⟩
  have lv:Leaves P fn a'.tmps (fun e w'=>∃ v' S' ρ',e = .returned v'∧Fr B w w'∧(∀ b,S b→S' b)∧(∀ b,S' b→S b∨B.own b)∧HRel X.E S' ρ' w' B h∧Rel X.E S' ρ' w' v v') a'.defers .returning w':=by
    obtain ⟨S1,ρ1,hi⟩:=hs'
    rw [hi.defers]
    show Leaves P fn a'.tmps _ D .returning w'
    rcases hD with rfl | ⟨g,n,vf,vc,hqd,hsz',rfl⟩
    · exact key
    · refine leaves_cons (by simp) (f := g) (args := vf ++ vc) (by simp [invoke, hqd.1]) ((hqd.2 (vf ++ vc) w' (by simpa using hsz')).mono ?_)
      rintro e u' w2 ⟨⟨v2,rfl⟩,rfl,rfl⟩
      exact key
  exact ⟨lv,lv⟩
structure FnX where
 body:Code
 nt:Nat
 lds:List (Nat×TypeId)
 res:List Nat
 shr:List Nat
 pl:Bool
def FnXOk (P:Program) (f:FuncId) (i:FnX):Prop:=(∀ as w,(callFunc f as).run P w=.ok (.enter f as) w)∧∃ fn,P.funcs[f]? = some fn∧fn.body=some i.body∧fn.ntmps=i.nt∧fn.results=(i.res.map (rvOf i.nt i.lds)).toArray
def fnxGet:List (FuncId×FnX)→FuncId→Option FnX
 | [],_=>none
 | (g,i) :: l,f=>bif Nat.beq g f then some i else fnxGet l f
theorem fnxGet_ok {P:Program}:∀ {l:List (FuncId×FnX)},(∀ p∈l,FnXOk P p.1 p.2)→∀ {f i},fnxGet l f=some i→FnXOk P f i:=by
  intro l
  induction l with
  | nil=>intro _ f i h; cases h
  | cons p l ih =>
    intro hl f i h
    obtain ⟨g,j⟩:=p
    simp only [fnxGet] at h
    by_cases e:g=f
    · subst e; rw [Nat.beq_refl] at h; cases h; exact hl (g,i) (by simp)
    · rw [nbeq_ne e] at h; exact ih (fun p hp=>hl p (by simp [hp])) h
def isPl (l:List (FuncId×FnX)) (f:FuncId):Bool:=match fnxGet l f with | some i=>i.pl | none=>false
def outNames:Heap U El→Bool
 | []=>true
 | (j,_) :: h=>Nat.blt j 4&&outNames h
noncomputable def inl (X0:Ctx U El) (qd:List (Nat×Nat)) (tab:List (FuncId×FnX)):Nat→FuncId→Option (MSp U El)
  | 0,_=>none
  | n + 1, f => match fnxGet tab f with
    | none=>none
    | some i => some fun args hs k =>
      let X : Ctx U El := { X0 with
        nt:=i.nt
        spec:=fun g vs k=>match inl X0 qd tab n g with
          | some sp => (match sp vs [] (fun v h => some (v, h)) with
            | some p=>chk (outNames p.2) (k p.1 p.2)
            | none=>none)
          | none=>X0.spec g vs k
        dspec:=fun g=>bif isPl tab g then X0.dspec g else (match inl X0 qd tab n g with | some sp=>some sp | none=>X0.dspec g)
        mspec:=fun g=>bif isPl tab g then X0.mspec g else (match inl X0 qd tab n g with | some sp=>some (mcSp sp) | none=>X0.mspec g) }
      bif Nat.ble args.length i.nt then (match runX X qd i.body i.lds i.res i.shr hs args with
        | some p=>k p.1 p.2
        | none=>none)
      else none
theorem mcall_spec {f : FuncId} {args : List (AV U El)} {v : AV U El} {h : Heap U El} {E : Univ U El} (hu : UGood P E) (hc : ∀ as w, (callFunc f as).run P w = .ok (.enter f as) w) (hm : MCall P E f args [] v h) (ho : outNames h = true) : CallSpec P E f args v h := by
  refine ⟨hc,fun id b hg=>?_,fun S w vs hlt hG hr=>?_⟩
  · have : ∀ (l : Heap U El), outNames l = true → hget l id = some b → id < 4 := by
      intro l
      induction l with
      | nil=>intro _ h; cases h
      | cons p l ih =>
        intro h1 h2
        obtain ⟨i,c⟩:=p
        simp only [outNames,Bool.and_eq_true] at h1
        simp only [hget] at h2
        by_cases e:i=id
        · subst e; exact Nat.le_of_ble_eq_true h1.1
        · rw [nbeq_ne e] at h2; exact ih h1.2 h2
    exact this h ho hg
  · refine (hm (From w) S (fun _ => none) w vs (fun _ h => h) (fun w' hf => hu.gst _ _ hG hf.below) (HRel.nil hlt _) hr).mono ?_
    rintro e w' ⟨v',S',ρ',rfl,h1,h2,h3,h4,h5⟩
    exact ⟨v',S',ρ',rfl,⟨h1,h2,h3,fun _ _ h=>(by cases h),hlt⟩,h4,h5⟩
theorem inl_ok {X0 : Ctx U El} {qd : List (Nat × Nat)} {tab : List (FuncId × FnX)} (hq : ∀ p ∈ qd, QuietD P p.1 p.2) (hX : CtxOk P X0) (hM : ∀ n, MOk P { X0 with nt := n }) (ht : ∀ p ∈ tab, FnXOk P p.1 p.2) (hMX : ∀ (X : Ctx U El), X.E = X0.E → X.tds = X0.tds → CtxOk P X → ∀ g sp, X0.mspec g = some sp → SpMOk P X g sp) :
    ∀ (n:Nat) (f:FuncId) (sp:MSp U El),inl X0 qd tab n f=some sp→DSpOk P X0.E f sp:=by
  intro n
  induction n with
  | zero=>intro f sp h; cases h
  | succ n ih =>
    intro f sp h
    simp only [inl] at h
    split at h
    · cases h
    · rename_i i hi
      obtain ⟨hcall,fn,hf,hb,hnt,hres⟩:=fnxGet_ok ht hi
      cases h
      obtain ⟨X,hXe⟩:∃ X:Ctx U El,X={ X0 with
        nt:=i.nt
        spec:=fun g vs k=>match inl X0 qd tab n g with
          | some sp => (match sp vs [] (fun v h => some (v, h)) with
            | some p=>chk (outNames p.2) (k p.1 p.2)
            | none=>none)
          | none=>X0.spec g vs k
        dspec:=fun g=>bif isPl tab g then X0.dspec g else (match inl X0 qd tab n g with | some sp=>some sp | none=>X0.dspec g)
        mspec:=fun g=>bif isPl tab g then X0.mspec g else (match inl X0 qd tab n g with | some sp=>some (mcSp sp) | none=>X0.mspec g) }:=⟨_,rfl⟩
      have hE:X.E=X0.E:=by rw [hXe]
      have hXk:CtxOk P X:=by
        rw [hXe]
        refine ⟨hX.mixed,hX.u,hX.td,hX.z,hX.one,hX.eq,fun g vs=>?_,fun g sp hg=>?_,fun g vs k r hv=>?_⟩
        · simp only
          cases hg:inl X0 qd tab n g with
          | none=>exact hX.det g vs
          | some sp =>
            simp only
            cases hs:sp vs [] (fun v h=>some (v,h)) with
            | none=>exact ⟨none,fun _=>rfl⟩
            | some p =>
              cases hc:outNames p.2 with
              | false=>exact ⟨none,fun k=>by simp [hc,chk]⟩
              | true=>exact ⟨some p,fun k=>by simp [hc,chk]⟩
        · simp only at hg
          cases hp:isPl tab g with
          | true=>rw [hp] at hg; exact hX.dsp g sp hg
          | false =>
          rw [hp,cond_false] at hg
          cases hg':inl X0 qd tab n g with
          | none=>rw [hg'] at hg; exact hX.dsp g sp hg
          | some sp'=>rw [hg'] at hg; cases hg; exact ih g _ hg'
        · simp only at hv
          cases hg':inl X0 qd tab n g with
          | none=>rw [hg'] at hv; exact hX.spec g vs k r hv
          | some sp' =>
            rw [hg'] at hv
            simp only at hv
            split at hv
            · rename_i p hp
              obtain ⟨ho,hk⟩:=chk_some hv
              obtain ⟨v,hc,hm,e⟩:=(ih g _ hg').1.2 _ _ _ _ hp
              cases e
              exact ⟨_,_,mcall_spec hX.u (ih g _ hg').1.1 hm ho,hk⟩
            · cases hv
      have hMk:MOk P X:=fun g sp hg=>by
        have hg2:=hg
        rw [hXe] at hg2
        simp only at hg2
        cases hp:isPl tab g with
        | true=>rw [hp] at hg2; exact hMX X hE (by rw [hXe]) hXk g sp hg2
        | false =>
        rw [hp,cond_false] at hg2
        cases hg':inl X0 qd tab n g with
        | none=>rw [hg'] at hg2; exact hMX X hE (by rw [hXe]) hXk g sp hg2
        | some sp' =>
          rw [hg'] at hg2
          cases hg2
          exact mcSp_ok hXk (by rw [hE]; exact (ih g _ hg').1)
      rw [← hXe]
      refine ⟨⟨hcall,fun args hs k r hv=>?_⟩,fun args hs=>?_⟩
      · dsimp only at hv
        cases hl:Nat.ble args.length i.nt with
        | false=>rw [hl] at hv; cases hv
        | true =>
          rw [hl,cond_true] at hv
          split at hv
          · rename_i p hp
            obtain ⟨v,h⟩:=p
            refine ⟨v,h,?_,hv⟩
            rw [← hE]
            exact runX_sound hXk hMk hq hf hb (by rw [hXe]; exact hnt) (by rw [hXe]; exact hres) (by rw [hXe]; exact Nat.le_of_ble_eq_true hl) hp
          · cases hv
      · cases hl : Nat.ble args.length i.nt with
        | false=>exact ⟨none,fun k=>by dsimp only; rw [hl]; rfl⟩
        | true =>
          cases hp:runX X qd i.body i.lds i.res i.shr hs args with
          | none=>exact ⟨none,fun k=>by dsimp only; rw [hl,hp]; rfl⟩
          | some p=>exact ⟨some p,fun k=>by dsimp only; rw [hl,hp]; rfl⟩
theorem inl_spec {X0:Ctx U El} {qd:List (Nat×Nat)} {tab:List (FuncId×FnX)} (hq:∀ p∈qd,QuietD P p.1 p.2) (hX:CtxOk P X0) (hM:∀ n,MOk P { X0 with nt:=n }) (ht:∀ p∈tab,FnXOk P p.1 p.2) (hMX:∀ (X:Ctx U El),X.E=X0.E→X.tds=X0.tds→CtxOk P X→∀ g sp,X0.mspec g=some sp→SpMOk P X g sp)
    {n:Nat} {f:FuncId} {args:List (AV U El)} {v:AV U El} {h:Heap U El} (hv:((inl X0 qd tab n f).bind fun sp=>sp args [] fun v h=>some (v,h))=some (v,h)) (ho:outNames h=true):CallSpec P X0.E f args v h:=by
  cases hi:inl X0 qd tab n f with
  | none=>rw [hi] at hv; cases hv
  | some sp =>
    rw [hi] at hv
    obtain ⟨h1,_⟩:=inl_ok hq hX hM ht hMX n f sp hi
    obtain ⟨v',hc,hm,e⟩:=h1.2 _ _ _ _ hv
    cases e
    exact mcall_spec hX.u h1.1 hm ho
end
end Go.Proofs.YtlkfbblapimhoaaGreatDoor
