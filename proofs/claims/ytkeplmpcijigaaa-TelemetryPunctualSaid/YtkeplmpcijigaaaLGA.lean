/- The operations of a region, on: maps. -/
import Derived.Test.YtkeplmpcijigaaaLG
import Derived.MapKept
namespace Go.Proofs.Ytkeplmpcijigaaa
set_option linter.unusedVariables false
set_option linter.unusedSectionVars false
set_option linter.unusedSimpArgs false
open Go.RowKit
theorem mfind_idx {K V:Type} (eq:K→K→Bool):∀ (l:List (K×V)) (x:K),mfind eq l x=(midx eq (l.map (·.1)) x).bind fun i=>(l[i]?).map (·.2):=by
  intro l
  induction l with
  | nil=>intro x; rfl
  | cons p l ih =>
    intro x
    simp only [mfind,List.map_cons,midx]
    cases eq x p.1
    · simp only [cond_false, ih]
      cases midx eq (l.map (·.1)) x<;>simp
    · rfl
theorem midx_lt {K:Type} (eq:K→K→Bool):∀ (l:List K) (x:K) (i:Nat),midx eq l x=some i→∃ y,l[i]? = some y∧eq x y=true:=by
  intro l
  induction l with
  | nil=>intro x i h; cases h
  | cons a l ih =>
    intro x i h
    simp only [midx] at h
    cases he:eq x a with
    | true=>rw [he] at h; cases h; exact ⟨a,rfl,he⟩
    | false =>
      rw [he] at h
      simp only [cond_false,Option.map_eq_some_iff] at h
      obtain ⟨j,hj,rfl⟩:=h
      obtain ⟨y,h1,h2⟩:=ih x j hj
      exact ⟨y,by simpa using h1,h2⟩
theorem mput_idx {K V:Type} (eq:K→K→Bool):∀ (l:List (K×V)) (x:K) (v:V),mput eq l x v=match midx eq (l.map (·.1)) x with | some i=>l.set i (x,v) | none=>l++[(x,v)]:=by
  intro l
  induction l with
  | nil=>intro x v; rfl
  | cons p l ih =>
    intro x v
    simp only [mput,List.map_cons,midx]
    cases eq x p.1
    · simp only [cond_false, ih]
      cases midx eq (l.map (·.1)) x<;>simp
    · rfl
section
variable {U:Type} {El:U→Type} {P:Program} {X:Ctx U El} {S S':Nat→Prop} {ρ ρ':Rho} {w w':World} {E:Univ U El} [Drw]
variable [DecidableEq U]
theorem nils_lst {c c':AV U El} {v:Value} (h:c'=c∨(c' = .nils∧∃ u',c = .lst u' [])) (hr:Rel E S ρ w c' v):Rel E S ρ w c v:=by
  rcases h with rfl | ⟨rfl,u',rfl⟩
  · exact hr
  · cases hr; exact .lstE u' none 0
theorem decV_rel {u : U} {x : El u} {av : AV U El} {v : Value} (hg : UGood P E) (h : decV E u av = some x) (hr : Rel E S ρ w av v) : ERel E S ρ w u x v := by
  have one:∀ {a:AV U El},(bif E.agg u then none else E.dec u [a])=some x→Rel E S ρ w a v→ERel E S ρ w u x v:=fun {a} h hr=>by
    cases ha:E.agg u with
    | true=>rw [ha] at h; cases h
    | false =>
      rw [ha] at h
      obtain ⟨h1,h2⟩:=hg.dec u _ x h
      unfold ERel
      rw [if_neg (by simp [ha])]
      have hl:=hg.len u x
      rw [← h1] at hl
      match he:E.enc u x,hl with
      | [c], _ =>
        obtain ⟨c',h3,h4⟩:=h2 0 c (by rw [he]; rfl)
        cases h3
        exact ⟨c,rfl,nils_lst h4 hr⟩
  unfold decV at h
  split at h
  · rename_i cs
    cases ha:E.agg u with
    | false=>rw [ha] at h; cases h
    | true =>
      rw [ha] at h
      obtain ⟨h1,h2⟩:=hg.dec u cs x h
      unfold ERel
      rw [if_pos ha]
      generalize hq:AV.agg cs=q at hr
      cases hr<;>cases hq
      rename_i vs hl hc
      refine ⟨vs,rfl,by rw [hl,h1,hg.len],fun i c v' hi hv => ?_⟩
      obtain ⟨c',h3,h4⟩:=h2 i c hi
      exact nils_lst h4 (hc i c' v' h3 hv)
  · cases h
  · cases h
  · exact one h hr
theorem elAV_rel {u:U} {x:El u} {v:Value} (h:ERel E S ρ w u x v):Rel E S ρ w (elAV E u x) v:=by
  unfold ERel at h
  unfold elAV
  split at h
  · rename_i ha
    obtain ⟨vs,rfl,h1,h2⟩:=h
    rw [ha]
    exact .agg _ vs h1 h2
  · rename_i ha
    obtain ⟨c,h1,h2⟩:=h
    rw [show E.agg u=false by simpa using ha,h1]
    exact h2
section ops
variable {o:Oper} {a:Act} {t:Tmps U El} {h H:Heap U El} {B:Bd} {d:Nat} {k:Out U El→Option (Fin U El)} {r:Fin U El}
theorem op_makeMap {ty:TypeId} {u v:U} (ho:o.op = .makeMap ty none) (hlt:∀ b,S b→b < w.heap.size) (hd:ρ d=none):OpDone P X.E S ρ w o a d ⟨.mp d,[(d,.map u v [])]⟩:=by
  refine done_newOb (ob := .map #[] 0) (v := .map (some w.heap.size)) ⟨w.heap.size,1,1,0⟩ (by simp [newIds,ho]) hd ?_ hlt (fun _=>rfl) (fun ρ' h1 _ => .mp d _ h1) (fun ρ' h1 _ hns => ?_)
  · simp only [execOp,ho,Instr.makeMap,Option.map_none]; rfl
  · exact ⟨rfl,Nat.le_refl _,hns,#[],0,heap_new w _,rfl,fun i e p hi=>by simp at hi⟩
theorem mp_rel {t:Tmps U El} {m:Operand} {id:Nat} {u v:U} {es:List (El u×El v)} (hr:Rel X.E S ρ w (oget t m) (a.eval m)) (hm:oget t m = .mp id) (hH:HRel X.E S ρ w B H) (hg:hget H id=some (.map u v es)) :
    ∃ l ents clock,ρ id=some l∧a.eval m = .map (some l.b)∧l.n=1∧B.own l.b∧¬ S l.b∧w.heap[l.b]? = some (.map ents clock)∧ents.size=es.length∧∀ (i:Nat) (e:MapEntry) (p:El u×El v),ents[i]? = some e→es[i]? = some p→ERel X.E S ρ w u p.1 e.key∧ERel X.E S ρ w v p.2 e.val:=by
  rw [hm] at hr
  generalize hq:a.eval m=q at hr
  cases hr with
  | mp _ l hl =>
    obtain ⟨l',hl',hbl⟩:=hH.get _ _ hg
    rw [hl] at hl'; cases hl'
    obtain ⟨h1,h2,h3,ents,clock,h4,h5,h6⟩:=hbl
    exact ⟨l,ents,clock,hl,rfl,h1,h2,h3,h4,h5,h6⟩
theorem ent_find {u v:U} {es:List (El u×El v)} {ents:Array MapEntry} {x:El u} {kv:Value} (K:KeyOk P X.E u) (hsz:ents.size=es.length) (hent:∀ (i:Nat) (e:MapEntry) (p:El u×El v),ents[i]? = some e→es[i]? = some p→ERel X.E S ρ w u p.1 e.key∧ERel X.E S ρ w v p.2 e.val) (hk:ERel X.E S ρ w u x kv) :
    ((Instr.findKey (X.E.tid u) kv ents.toList).run P w = .ok none w∧midx (X.E.keq u) (es.map (·.1)) x=none) ∨
    ∃ i e p,(Instr.findKey (X.E.tid u) kv ents.toList).run P w = .ok (some (i,e.val)) w∧midx (X.E.keq u) (es.map (·.1)) x=some i∧ents[i]? = some e∧es[i]? = some p∧X.E.keq u x p.1=true∧ERel X.E S ρ w u p.1 e.key∧ERel X.E S ρ w v p.2 e.val:=by
  have hf:=K.find ents.toList (es.map (·.1)) hk (by simp [hsz]) (fun i e y he hy=>by
    simp only [List.getElem?_map,Option.map_eq_some_iff] at hy
    obtain ⟨p,hp,rfl⟩:=hy
    exact (hent i e p (by simpa using he) hp).1)
  cases hm:midx (X.E.keq u) (es.map (·.1)) x with
  | none=>exact .inl ⟨by rw [hf,hm]; rfl,rfl⟩
  | some i =>
    obtain ⟨y,h1,h2⟩:=midx_lt _ _ _ _ hm
    simp only [List.getElem?_map,Option.map_eq_some_iff] at h1
    obtain ⟨p,hp,rfl⟩:=h1
    have hil:i < ents.size:=by rw [hsz]; exact (List.getElem?_eq_some_iff.1 hp).1
    have he:ents[i]? = some ents[i]:=Array.getElem?_eq_getElem hil
    refine .inr ⟨i,ents[i],p,?_,rfl,he,hp,h2,hent i _ p he hp⟩
    rw [hf,hm]
    simp [hil]
theorem op_lookup {ty:TypeId} {m ix:Operand} {ok:Bool} {id:Nat} {u v:U} {es:List (El u×El v)} {x:El u} (hX:CtxOk P X) (ho:o.op = .lookup ty m ix ok) (htd:tdGet X.tds ty=some (.map u v)) (hm:oget t m = .mp id) (hg:hget h id=some (.map u v es))
    (hku:X.E.kok u=true) (hvv:X.E.vok v=true) (hx:decV X.E u (oget t ix)=some x) (hT:TRel X.E S ρ w o t a) (hH:HRel X.E S ρ w B H) (hs:∀ id b,hget h id=some b→hget H id=some b) :
    OpDone P X.E S ρ w o a d ⟨bif ok then .tup [elAV X.E v (mgetD (X.E.keq u) es x (X.E.dflt v)),.bool (mhas (X.E.keq u) es x)] else elAV X.E v (mgetD (X.E.keq u) es x (X.E.dflt v)),[]⟩:=by
  obtain ⟨l,ents,clock,hl,hq,_,_,_,hh,hsz,hent⟩:=mp_rel (hT.get (x:=m) (by simp [ho,Op.operands])) hm hH (hs _ _ hg)
  have hkey:=decV_rel hX.u hx (hT.get (x:=ix) (by simp [ho,Op.operands]))
  have K:=hX.u.key u hku
  obtain ⟨i,z,hi,hz,hzr⟩:=hX.u.val v hvv
  have hzv:(zeroValue (X.E.tid v)).run P w = .ok z w:=by simp [zeroValue,typeInfo,hi,hz]
  have hu:P.underlying ty=some (.map (X.E.tid u) (X.E.tid v)):=hX.td _ _ htd
  have fin:∀ (y:Value) (b:Bool),(Instr.lookup ty (a.eval m) (a.eval ix) ok).run P w = .ok (if ok then .tuple #[y,.bool b] else y) w→ERel X.E S ρ w v (mgetD (X.E.keq u) es x (X.E.dflt v)) y→mhas (X.E.keq u) es x=b →
      OpDone P X.E S ρ w o a d ⟨bif ok then .tup [elAV X.E v (mgetD (X.E.keq u) es x (X.E.dflt v)),.bool (mhas (X.E.keq u) es x)] else elAV X.E v (mgetD (X.E.keq u) es x (X.E.dflt v)),[]⟩:=by
    intro y b hrun hy hb
    refine done_value (v:=if ok then .tuple #[y,.bool b] else y) (by simp [execOp,ho,hrun]) ?_ hH.lt
    cases ok with
    | false=>exact elAV_rel hy
    | true =>
      rw [hb]
      refine .tup _ _ rfl fun j c v' hc hv => ?_
      match j,hc,hv with
      | 0,hc,hv=>cases hc; cases hv; exact elAV_rel hy
      | 1,hc,hv=>cases hc; cases hv; exact .bool b
  have hd:mgetD (X.E.keq u) es x (X.E.dflt v)=((midx (X.E.keq u) (es.map (·.1)) x).bind fun i=>(es[i]?).map (·.2)).getD (X.E.dflt v):=by unfold mgetD; rw [mfind_idx]
  have hb:mhas (X.E.keq u) es x=((midx (X.E.keq u) (es.map (·.1)) x).bind fun i=>(es[i]?).map (·.2)).isSome:=by unfold mhas; rw [mfind_idx]
  rcases ent_find K hsz hent hkey with ⟨hf,hmi⟩ | ⟨j,e,p,hf,hmi,he,hp,_,_,hr2⟩
  · rw [hmi] at hd hb
    refine fin z false ?_ (by rw [hd]; exact hzr S ρ w) (by rw [hb]; rfl)
    simp [Instr.lookup,run_underlying hu,hq,MapKept.run_getObj_map hh,K.check _ hkey,hf,hzv]
  · rw [hmi] at hd hb
    simp only [Option.bind_some,hp,Option.map_some,Option.getD_some,Option.isSome_some] at hd hb
    refine fin e.val true ?_ (by rw [hd]; exact hr2) hb
    simp [Instr.lookup,run_underlying hu,hq,MapKept.run_getObj_map hh,K.check _ hkey,hf]
theorem fmp_rel {t:Tmps U El} {m:Operand} {u v:U} {es:List (El u×El v)} (hr:Rel X.E S ρ w (oget t m) (a.eval m)) (hm:oget t m = .fmp u v es) :
    ∃ b ents clock,a.eval m = .map (some b)∧w.heap[b]? = some (.map ents clock)∧ents.size=es.length∧∀ (i:Nat) (e:MapEntry) (p:El u×El v),ents[i]? = some e→es[i]? = some p→ERel X.E S ρ w u p.1 e.key∧ERel X.E S ρ w v p.2 e.val:=by
  rw [hm] at hr
  generalize hq:a.eval m=q at hr
  cases hr with
  | fmp _ _ _ b ents clock hS hb hn hf hk hv=>exact ⟨b,ents,clock,rfl,hb,hn,fun i e p hi hp=>⟨.of_fit (hf i e p hi hp).1 (hk i e p · · · hi hp),.of_fit (hf i e p hi hp).2 (hv i e p · · · hi hp)⟩⟩
theorem op_lookupF {ty:TypeId} {m ix:Operand} {ok:Bool} {u v:U} {es:List (El u×El v)} {x:El u} (hX:CtxOk P X) (ho:o.op = .lookup ty m ix ok) (htd:tdGet X.tds ty=some (.map u v)) (hm:oget t m = .fmp u v es)
    (hku:X.E.kok u=true) (hvv:X.E.vok v=true) (hx:decV X.E u (oget t ix)=some x) (hT:TRel X.E S ρ w o t a) (hH:HRel X.E S ρ w B H) :
    OpDone P X.E S ρ w o a d ⟨bif ok then .tup [elAV X.E v (mgetD (X.E.keq u) es x (X.E.dflt v)),.bool (mhas (X.E.keq u) es x)] else elAV X.E v (mgetD (X.E.keq u) es x (X.E.dflt v)),[]⟩:=by
  obtain ⟨b0,ents,clock,hq,hh,hsz,hent⟩:=fmp_rel (hT.get (x:=m) (by simp [ho,Op.operands])) hm
  have hkey:=decV_rel hX.u hx (hT.get (x:=ix) (by simp [ho,Op.operands]))
  have K:=hX.u.key u hku
  obtain ⟨i,z,hi,hz,hzr⟩:=hX.u.val v hvv
  have hzv:(zeroValue (X.E.tid v)).run P w = .ok z w:=by simp [zeroValue,typeInfo,hi,hz]
  have hu:P.underlying ty=some (.map (X.E.tid u) (X.E.tid v)):=hX.td _ _ htd
  have fin:∀ (y:Value) (b:Bool),(Instr.lookup ty (a.eval m) (a.eval ix) ok).run P w = .ok (if ok then .tuple #[y,.bool b] else y) w→ERel X.E S ρ w v (mgetD (X.E.keq u) es x (X.E.dflt v)) y→mhas (X.E.keq u) es x=b →
      OpDone P X.E S ρ w o a d ⟨bif ok then .tup [elAV X.E v (mgetD (X.E.keq u) es x (X.E.dflt v)),.bool (mhas (X.E.keq u) es x)] else elAV X.E v (mgetD (X.E.keq u) es x (X.E.dflt v)),[]⟩:=by
    intro y b hrun hy hb
    refine done_value (v:=if ok then .tuple #[y,.bool b] else y) (by simp [execOp,ho,hrun]) ?_ hH.lt
    cases ok with
    | false=>exact elAV_rel hy
    | true =>
      rw [hb]
      refine .tup _ _ rfl fun j c v' hc hv => ?_
      match j,hc,hv with
      | 0,hc,hv=>cases hc; cases hv; exact elAV_rel hy
      | 1,hc,hv=>cases hc; cases hv; exact .bool b
  have hd:mgetD (X.E.keq u) es x (X.E.dflt v)=((midx (X.E.keq u) (es.map (·.1)) x).bind fun i=>(es[i]?).map (·.2)).getD (X.E.dflt v):=by unfold mgetD; rw [mfind_idx]
  have hb:mhas (X.E.keq u) es x=((midx (X.E.keq u) (es.map (·.1)) x).bind fun i=>(es[i]?).map (·.2)).isSome:=by unfold mhas; rw [mfind_idx]
  rcases ent_find K hsz hent hkey with ⟨hf,hmi⟩ | ⟨j,e,p,hf,hmi,he,hp,_,_,hr2⟩
  · rw [hmi] at hd hb
    refine fin z false ?_ (by rw [hd]; exact hzr S ρ w) (by rw [hb]; rfl)
    simp [Instr.lookup,run_underlying hu,hq,MapKept.run_getObj_map hh,K.check _ hkey,hf,hzv]
  · rw [hmi] at hd hb
    simp only [Option.bind_some,hp,Option.map_some,Option.getD_some,Option.isSome_some] at hd hb
    refine fin e.val true ?_ (by rw [hd]; exact hr2) hb
    simp [Instr.lookup,run_underlying hu,hq,MapKept.run_getObj_map hh,K.check _ hkey,hf]
theorem op_lenM {as:Array Operand} {ts:Array TypeId} {x:Operand} {id:Nat} {u v:U} {es:List (El u×El v)} {ty:TypeId} {u1 v1:U} (hX:CtxOk P X) (ho:o.op = .call ⟨.builtin .len,as,ts⟩) (has:as.toList=[x]) (hx:oget t x = .mp id) (hg:hget h id=some (.map u v es)) (ht0:ts[0]? = some ty) (htd:tdGet X.tds ty=some (.map u1 v1))
    (hT:TRel X.E S ρ w o t a) (hH:HRel X.E S ρ w B H) (hs:∀ id b,hget h id=some b→hget H id=some b):OpDone P X.E S ρ w o a d ⟨.int .i64 es.length,[]⟩:=by
  have ha:as=#[x]:=by apply Array.ext'; simpa using has
  subst ha
  obtain ⟨l,ents,clock,hl,hq,_,_,_,hh,hsz,hent⟩:=mp_rel (hT.get (x:=x) (by simp [ho,Op.operands,Call.operands])) hx hH (hs _ _ hg)
  have hu:P.underlying ty=some (.map (X.E.tid u1) (X.E.tid v1)):=hX.td _ _ htd
  refine done_value (v := .int .i64 es.length) ?_ (.int _ _) hH.lt
  simp [execOp,ho,resolve,invoke,builtin,Builtin.len_,ht0,hq,run_underlying hu,MapKept.run_getObj_map hh,goInt,hsz]
end ops
end
end Go.Proofs.Ytkeplmpcijigaaa
