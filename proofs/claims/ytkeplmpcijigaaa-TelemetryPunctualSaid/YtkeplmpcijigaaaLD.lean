/- The operations of a region, on: loads, addresses, slices. -/
import Derived.Test.YtkeplmpcijigaaaLC
namespace Go.Proofs.Ytkeplmpcijigaaa
set_option linter.unusedVariables false
set_option linter.unusedSectionVars false
set_option linter.unusedSimpArgs false
open Go.RowKit
section
variable {U:Type} {El:U→Type} {P:Program} {X:Ctx U El} {S:Nat→Prop} {ρ:Rho} {w:World} [DecidableEq U] [Drw]
variable {o:Oper} {a:Act} {t:Tmps U El} {h H:Heap U El} {B:Bd} {d:Nat} {r:Fin U El}
theorem addr_add (b o n:Nat):Addr.add ⟨b,o,none⟩ n=⟨b,o+n,none⟩:=Addr.add_lit b o n
theorem view_rel {p : AV U El} {v : Value} {k : List (AV U El) → Nat → Option (Fin U El)} (hX : CtxOk P X) (hH : HRel X.E S ρ w B H) (hs : ∀ id b, hget h id = some b → hget H id = some b) (hr : Rel X.E S ρ w p v) (hv : view X h p k = some r) :
    ∃ cs off b o,k cs off=some r∧v = .pointer (some ⟨b,o+off,none⟩)∧∀ (j:Nat) c,cs[j]? = some c→∃ x,w.cell? ⟨b,o+j,none⟩=some x∧Rel X.E S ρ w c x:=by
  unfold view at hv
  split at hv
  · rename_i id off
    split at hv
    · rename_i tg cs hg
      obtain ⟨l,hl,hb⟩:=hH.get _ _ (hs _ _ hg)
      cases hr with
      | ptr _ _ l' hl' =>
        rw [hl] at hl'; cases hl'
        refine ⟨cs,off,l.b,0,hv,by simp,fun j c hj => ?_⟩
        obtain ⟨_,h1,h2⟩:=hb
        have hjl:=(List.getElem?_eq_some_iff.1 hj).1
        obtain ⟨_,_,c',e,hh,h3,h4⟩:=h2 (by omega)
        obtain ⟨x,hx,hrx⟩:=h4 j c hj
        exact ⟨x,by rw [Nat.zero_add,cell_of_row w l.b j c' e (0,0) hh]; exact hx,hrx⟩
    · cases hv
  · rename_i id i off
    split at hv
    · rename_i u xs hg
      obtain ⟨h0,hv⟩:=chk_some hv
      have hi:i < xs.length:=by simpa [nlt] using h0
      obtain ⟨l,hl,hb⟩:=hH.get _ _ (hs _ _ hg)
      cases hr with
      | row _ _ _ l' hl' =>
        rw [hl] at hl'; cases hl'
        obtain ⟨h1,h1',h1'',h2⟩:=hb
        refine ⟨_,off,l.b,i * X.E.sz u,hv,by rw [h1],fun j c hj => ?_⟩
        have hp:=hX.u.pos u
        have hn:l.n≠0:=by
          have:0 < xs.length * X.E.sz u:=Nat.mul_pos (by omega) hp
          omega
        obtain ⟨_,_,c',hh,h3,h4⟩:=h2 hn
        have hxi:xs[i]? = some (xs.getD i (X.E.dflt u)):=by simp [List.getD,List.getElem?_eq_getElem hi]
        obtain ⟨x,hx,hrx⟩:=h4 i _ j c hxi hj
        exact ⟨x,by rw [cell_of_row w l.b _ c' _ (0,0) hh]; exact hx,hrx⟩
    · cases hv
  · rename_i u xs i off
    cases hr with
    | pel _ _ _ _ b o cap hl hi =>
      refine ⟨_,off,b,o+i * X.E.sz u,hv,rfl,fun j c hj => ?_⟩
      have hxi:xs[i]? = some (xs.getD i (X.E.dflt u)):=by simp [List.getD,List.getElem?_eq_getElem hi]
      generalize hq:Value.slice (some ⟨b,o,none⟩) xs.length cap=q at hl
      cases hl with
      | lstE=>exact absurd hi (by simp)
      | lst _ _ b' o' cap' val hS hc hcell hrel =>
        cases hq
        exact ⟨_,hcell i _ j c hxi hj,hrel i _ j c hxi hj⟩
  · rename_i cs off
    cases hr with
    | pcs _ _ b o val hS hcell hrel=>exact ⟨cs,off,b,o,hv,rfl,fun j c hj=>⟨_,hcell j c hj,hrel j c hj⟩⟩
  · cases hv
theorem td_agg {ty:TypeId} {td:TD U} {sz:Nat} {ag:Bool} (hk:TDOk P X.E ty td) (h:tdAgg td=some (sz,ag)):(∃ d,P.underlying ty=some d∧agD d=ag)∧(ag=true→∃ i,P.info? ty=some i∧i.size=sz):=by
  cases td with
  | one=>cases h; obtain ⟨d,h1,h2⟩:=hk; exact ⟨⟨d,h1,h2⟩,fun h=>by cases h⟩
  | bool=>cases h; exact ⟨⟨_,hk,rfl⟩,fun h=>by cases h⟩
  | ptr=>cases h; obtain ⟨e,h1⟩:=hk; exact ⟨⟨_,h1,rfl⟩,fun h=>by cases h⟩
  | iface=>cases h; obtain ⟨e,h1⟩:=hk; exact ⟨⟨_,h1,rfl⟩,fun h=>by cases h⟩
  | int k=>cases h; exact ⟨⟨_,hk,rfl⟩,fun h=>by cases h⟩
  | str=>cases h; exact ⟨⟨_,hk,rfl⟩,fun h=>by cases h⟩
  | slice u=>cases h; exact ⟨⟨_,hk,rfl⟩,fun h=>by cases h⟩
  | struct fs sz=>cases h; obtain ⟨fields,h1,⟨i,h2,h3,_⟩,_⟩:=hk; exact ⟨⟨_,h1,rfl⟩,fun _=>⟨i,h2,h3⟩⟩
  | arr n es ea sz=>cases h; obtain ⟨e,h1,⟨i,h2,h3,_⟩,_⟩:=hk; exact ⟨⟨_,h1,rfl⟩,fun _=>⟨i,h2,h3⟩⟩
  | bld u=>cases h
  | map u v=>cases h; exact ⟨⟨_,hk,rfl⟩,fun h=>by cases h⟩
  | amap u=>cases h; obtain ⟨v,e,h1,_⟩:=hk; exact ⟨⟨_,h1,rfl⟩,fun h=>by cases h⟩
theorem load_part {ty : TypeId} {sz : Nat} {ag : Bool} {cs : List (AV U El)} {off b o : Nat} {k : AV U El → Option (Fin U El)} (ht : ∃ d, P.underlying ty = some d ∧ agD d = ag) (hz : ag = true → ∃ i, P.info? ty = some i ∧ i.size = sz)
    (hc:∀ (j:Nat) c,cs[j]? = some c→∃ x,w.cell? ⟨b,o+j,none⟩=some x∧Rel X.E S ρ w c x) (hp:partOf cs off sz ag k=some r) :
    ∃ av v,k av=some r∧(loadVar ty ⟨b,o+off,none⟩).run P w = .ok v w∧Rel X.E S ρ w av v:=by
  obtain ⟨d,hd,hag⟩:=ht
  unfold partOf at hp
  cases ag with
  | true =>
    simp only [cond] at hp
    obtain ⟨h0,hp⟩:=chk_some hp
    have hle:off+sz≤cs.length:=Nat.le_of_ble_eq_true h0
    obtain ⟨i,hi,hsz⟩:=hz rfl
    have hcell:∀ j,j < sz→w.cell? (Addr.add ⟨b,o+off,none⟩ j)=some ((w.cell? ⟨b,o+off+j,none⟩).getD undef):=fun j hj=>by
      obtain ⟨x,hx,_⟩:=hc (off+j) _ (List.getElem?_eq_getElem (by omega))
      rw [addr_add,Nat.add_assoc,hx]; rfl
    refine ⟨_,.agg (((List.range sz).map fun j=>(w.cell? ⟨b,o+off+j,none⟩).getD undef)).toArray,hp,?_,?_⟩
    · have hl := run_loadCells (P := P) w ⟨b, o + off, none⟩ sz _ hcell
      simp [loadVar,run_isAgg hd,hag,run_szT hi,hsz,hl]
    · refine .agg _ _ (by simp; omega) fun j c v hj hv => ?_
      have hjs:j < sz:=by
        have:=(List.getElem?_eq_some_iff.1 hj).1
        simp at this; omega
      simp [hjs] at hv
      rw [List.getElem?_take_of_lt hjs,List.getElem?_drop] at hj
      obtain ⟨x,hx,hrx⟩:=hc (off+j) c hj
      rw [← Nat.add_assoc] at hx
      rw [hx] at hv
      simp at hv
      subst hv
      exact hrx
  | false =>
    simp only [cond] at hp
    split at hp
    · rename_i c hcs
      obtain ⟨x,hx,hrx⟩:=hc off c hcs
      exact ⟨c,x,hp,by simp [loadVar,run_isAgg hd,hag,hx],hrx⟩
    · cases hp
theorem op_load {ty:TypeId} {p:Operand} {td:TD U} {sz:Nat} {ag:Bool} {k:Out U El→Option (Fin U El)} (hX:CtxOk P X) (ho:o.op = .load ty p) (htd:tdGet X.tds ty=some td) (hag:tdAgg td=some (sz,ag))
    (hv:view X h (oget t p) (fun cs off=>partOf cs off sz ag fun v=>k ⟨v,[]⟩)=some r)
    (hT:TRel X.E S ρ w o t a) (hH:HRel X.E S ρ w B H) (hs:∀ id b,hget h id=some b→hget H id=some b):∃ out,k out=some r∧OpDone P X.E S ρ w o a d out:=by
  have h1:=hT.get (x:=p) (by simp [ho,Op.operands])
  obtain ⟨cs,off,b,o',hk,hpv,hc⟩:=view_rel hX hH hs h1 hv
  obtain ⟨ht,hz⟩:=td_agg (hX.td _ _ htd) hag
  obtain ⟨av,v,hk',hrun,hr⟩:=load_part ht hz hc hk
  refine ⟨_,hk',done_value (v:=v) ?_ hr hH.lt⟩
  simp [execOp,ho,Instr.loadAt,Instr.sureAddr,hpv,hrun]
theorem struct_field {s:TypeId} {fs:List (Nat×Nat×Bool)} {sz f off fsz:Nat} {ag:Bool} (hk:TDOk P X.E s (.struct fs sz)) (hf:fs[f]? = some (off,fsz,ag)) :
    ∃ fields fl,P.underlying s=some (.struct fields)∧fields[f]? = some fl∧fl.offset=off∧(∃ d,P.underlying fl.type=some d∧agD d=ag)∧(∃ i,P.info? fl.type=some i∧i.size=fsz∧i.size≠0):=by
  obtain ⟨fields,h1,_,_,_,h2,h3⟩:=hk
  rw [h2] at hf
  simp only [List.getElem?_map,Option.map_eq_some_iff,Array.getElem?_toList] at hf
  obtain ⟨fl,hfl,e⟩:=hf
  have hm:fl∈fields.toList:=by simpa using Array.mem_of_getElem? hfl
  obtain ⟨⟨dd,hd⟩,i,hi,hi0⟩:=h3 fl hm
  simp only [Prod.mk.injEq] at e
  exact ⟨fields,fl,h1,hfl,e.1,⟨dd,hd,by rw [← e.2.2,agT_eq hd]⟩,⟨i,hi,by rw [← e.2.1,szT_eq hi],hi0⟩⟩
theorem op_fieldAddr {s : TypeId} {p : Operand} {f : Nat} {fs : List (Nat × Nat × Bool)} {sz off fsz : Nat} {ag : Bool} {k : Out U El → Option (Fin U El)} (hX : CtxOk P X) (ho : o.op = .fieldAddr s p f) (htd : tdGet X.tds s = some (.struct fs sz)) (hf : fs[f]? = some (off, fsz, ag))
    (hv : (match oget t p with
        | .ptr id o=>k ⟨.ptr id (o+off),[]⟩
        | .row id i o=>k ⟨.row id i (o+off),[]⟩
        | .pel u xs i o=>k ⟨.pel u xs i (o+off),[]⟩
        | .pcs cs o=>k ⟨.pcs cs (o+off),[]⟩
        | _=>none)=some r)
    (hT:TRel X.E S ρ w o t a) (hlt:∀ b,S b→b < w.heap.size):∃ out,k out=some r∧OpDone P X.E S ρ w o a d out:=by
  have h1:=hT.get (x:=p) (by simp [ho,Op.operands])
  obtain ⟨fields,fl,hu,hfl,hoff,_,⟨i,hi,_,hi0⟩⟩:=struct_field (hX.td _ _ htd) hf
  have hrun:∀ (b o':Nat),a.eval p = .pointer (some ⟨b,o',none⟩)→(execOp a.eval o).run P w = .ok (.value (.pointer (some ⟨b,o'+off,none⟩))) w:=fun b o' e=>by
    simp [execOp,ho,Instr.fieldAt,run_underlying hu,hfl,Instr.sureAddr,e,fieldPlace,run_szT hi,hi0,addr_add,hoff]
  split at hv
  · rename_i id o' e; rw [e] at h1; generalize hq:a.eval p=q at h1; cases h1 with | ptr _ _ l hl=>exact ⟨_,hv,done_value (hrun _ _ hq) (.ptr id (o'+off) l hl) hlt⟩
  · rename_i id i o' e; rw [e] at h1; generalize hq:a.eval p=q at h1; cases h1 with | row _ _ _ l hl=>exact ⟨_,hv,done_value (hrun _ _ hq) (by rw [Nat.add_assoc]; exact .row id i (o'+off) l hl) hlt⟩
  · rename_i u xs i o' e; rw [e] at h1; generalize hq:a.eval p=q at h1; cases h1 with | pel _ _ _ _ b o2 cap hl hi=>exact ⟨_,hv,done_value (hrun _ _ hq) (by rw [Nat.add_assoc]; exact .pel u xs i (o'+off) b o2 cap hl hi) hlt⟩
  · rename_i cs o' e; rw [e] at h1; generalize hq:a.eval p=q at h1; cases h1 with | pcs _ _ b o2 val hS hcell hr=>exact ⟨_,hv,done_value (hrun _ _ hq) (by rw [Nat.add_assoc]; exact .pcs cs (o'+off) b o2 val hS hcell hr) hlt⟩
  · cases hv
theorem part_rel {ty:TypeId} {sz:Nat} {ag:Bool} {cs:List (AV U El)} {vs:Array Value} {off:Nat} {k:AV U El→Option (Fin U El)} (ht:∃ d,P.underlying ty=some d∧agD d=ag) (hz:∃ i,P.info? ty=some i∧i.size=sz)
    (hl:vs.size=cs.length) (hc:∀ (i:Nat) c v,cs[i]? = some c→vs[i]? = some v→Rel X.E S ρ w c v) (hp:partOf cs off sz ag k=some r) :
    ∃ av v,k av=some r∧(part ty vs off).run P w = .ok v w∧Rel X.E S ρ w av v:=by
  obtain ⟨d,hd,hag⟩:=ht
  unfold partOf at hp
  cases ag with
  | true =>
    simp only [cond] at hp
    obtain ⟨h0,hp⟩:=chk_some hp
    have hle:off+sz≤cs.length:=Nat.le_of_ble_eq_true h0
    obtain ⟨i,hi,hsz⟩:=hz
    refine ⟨_,.agg (vs.extract off (off+sz)),hp,by simp [part,run_isAgg hd,hag,run_szT hi,hsz],?_⟩
    refine .agg _ _ (by simp; omega) fun j c v hj hv => ?_
    have hjs:j < sz:=by
      have:=(List.getElem?_eq_some_iff.1 hj).1
      simp at this; omega
    rw [List.getElem?_take_of_lt hjs,List.getElem?_drop] at hj
    rw [Array.getElem?_extract] at hv
    split at hv
    · exact hc (off+j) c v hj hv
    · cases hv
  | false =>
    simp only [cond] at hp
    split at hp
    · rename_i c hcs
      have hj:off < vs.size:=by rw [hl]; exact (List.getElem?_eq_some_iff.1 hcs).1
      exact ⟨c,vs[off],hp,by simp [part,run_isAgg hd,hag,Array.getElem?_eq_getElem hj],hc off c _ hcs (Array.getElem?_eq_getElem hj)⟩
    · cases hp
theorem op_field {s:TypeId} {x:Operand} {f:Nat} {fs:List (Nat×Nat×Bool)} {sz off fsz:Nat} {ag:Bool} {cs:List (AV U El)} {k:Out U El→Option (Fin U El)} (hX:CtxOk P X) (ho:o.op = .field s x f) (htd:tdGet X.tds s=some (.struct fs sz)) (hf:fs[f]? = some (off,fsz,ag))
    (hx:oget t x = .agg cs) (hv:partOf cs off fsz ag (fun v=>k ⟨v,[]⟩)=some r)
    (hT:TRel X.E S ρ w o t a) (hlt:∀ b,S b→b < w.heap.size):∃ out,k out=some r∧OpDone P X.E S ρ w o a d out:=by
  have h1:=hT.get (x:=x) (by simp [ho,Op.operands])
  obtain ⟨fields,fl,hu,hfl,hoff,ht,⟨i,hi,hi1,hi0⟩⟩:=struct_field (hX.td _ _ htd) hf
  rw [hx] at h1
  generalize hq:a.eval x=q at h1
  cases h1 with
  | agg _ vs hl hc =>
    obtain ⟨av,v,hk,hrun,hr⟩:=part_rel ht ⟨i,hi,hi1⟩ hl hc hv
    refine ⟨_,hk,done_value (v:=v) ?_ hr hlt⟩
    simp [execOp,ho,Instr.field,run_underlying hu,hfl,asAgg,hq,hoff,hrun]
theorem inb_iff {i:Int} {n:Nat} (h:inb i n=true):0≤i∧i < n:=by simpa [inb,ile,ilt] using h
theorem op_indexSlice {ty : TypeId} {x ix : Operand} {u : U} {kd : IntKind} {i : Int} {k : Out U El → Option (Fin U El)} (hX : CtxOk P X) (ho : o.op = .indexAddr ty x ix) (htd : tdGet X.tds ty = some (.slice u)) (hix : oget t ix = .int kd i)
    (hv : (match oget t x with
      | .lst u' xs=>chk (decide (u'=u)) (chk (inb i xs.length) (k ⟨.pel u' xs i.toNat 0,[]⟩))
      | .ful id => match hget h id with
        | some (.rows u' xs)=>chk (decide (u'=u)) (chk (inb i xs.length) (k ⟨.row id i.toNat 0,[]⟩))
        | _=>none
      | .own id lo len => match hget h id with
        | some (.rows u' xs)=>chk (decide (u'=u)) (chk (inb i len) (k ⟨.row id (lo+i.toNat) 0,[]⟩))
        | some (.box _ _)=>chk (Nat.beq lo 0) (ixA len i fun q=>k ⟨.ptr id (q * X.E.sz u),[]⟩)
        | _=>none
      | _=>none)=some r)
    (hT:TRel X.E S ρ w o t a) (hH:HRel X.E S ρ w B H) (hs:∀ id b,hget h id=some b→hget H id=some b):∃ out,k out=some r∧OpDone P X.E S ρ w o a d out:=by
  have h1:=hT.get (x:=x) (by simp [ho,Op.operands])
  have h2:=hT.get (x:=ix) (by simp [ho,Op.operands])
  have hu:P.underlying ty=some (.slice (X.E.tid u)):=hX.td _ _ htd
  obtain ⟨inf,z,hi,hsz,_⟩:=hX.u.info u
  rw [hix] at h2
  generalize hq2:a.eval ix=q2 at h2
  cases h2
  have hrun:∀ (b o' len cap:Nat),a.eval x = .slice (some ⟨b,o',none⟩) len cap→0≤i→i < len→(execOp a.eval o).run P w = .ok (.value (.pointer (some ⟨b,o'+i.toNat * X.E.sz u,none⟩))) w:=fun b o' len cap e h0 hl=>by
    simp [execOp,ho,Instr.indexAt,asIntOf,hq2,run_underlying hu,e,h0,hl,run_szT hi,hsz,addr_add]
  split at hv
  · rename_i u' xs e
    obtain ⟨hd,hv1⟩:=chk_some hv
    obtain ⟨hb,hv2⟩:=chk_some hv1
    clear hv hv1
    have hd:u'=u:=by simpa using hd
    subst hd
    obtain ⟨hi0,hi1⟩:=inb_iff hb
    rw [e] at h1
    generalize hq:a.eval x=q at h1
    cases h1 with
    | lstE=>exfalso; simp at hi1; omega
    | lst _ _ b off cap val hS hc hcell hrel =>
      exact ⟨_,hv2,done_value (hrun _ _ _ _ hq hi0 hi1) (by rw [← Nat.add_zero (off+_)]; exact .pel u' xs i.toNat 0 b off cap (.lst u' xs b off cap val hS hc hcell hrel) (by omega)) hH.lt⟩
  · rename_i id e
    split at hv
    · rename_i u' xs hg
      obtain ⟨hd,hv1⟩:=chk_some hv
      obtain ⟨hb,hv2⟩:=chk_some hv1
      clear hv hv1
      have hd:u'=u:=by simpa using hd
      subst hd
      obtain ⟨hi0,hi1⟩:=inb_iff hb
      obtain ⟨l,hl,hbl⟩:=hH.get _ _ (hs _ _ hg)
      obtain ⟨b1,b2,_⟩:=hbl
      rw [e] at h1
      generalize hq:a.eval x=q at h1
      cases h1 with
      | ful _ cap l' hl' hc1 hc2 =>
        rw [hl] at hl'; cases hl'
        exact ⟨_,hv2,done_value (hrun _ _ _ _ hq hi0 (by rw [b2]; exact hi1)) (by rw [Nat.zero_add,← b1,← Nat.add_zero (i.toNat * l.s)]; exact .row id i.toNat 0 l hl) hH.lt⟩
      | fulN _ l' hl' hc1 hc2=>rw [hl] at hl'; cases hl'; exfalso; omega
    · cases hv
  · rename_i id lo len e
    split at hv
    · rename_i u' xs hg
      obtain ⟨hd,hv1⟩:=chk_some hv
      obtain ⟨hb,hv2⟩:=chk_some hv1
      clear hv hv1
      have hd:u'=u:=by simpa using hd
      subst hd
      obtain ⟨hi0,hi1⟩:=inb_iff hb
      obtain ⟨l,hl,hbl⟩:=hH.get _ _ (hs _ _ hg)
      obtain ⟨b1,b2,_⟩:=hbl
      rw [e] at h1
      generalize hq:a.eval x=q at h1
      cases h1 with
      | own _ _ _ cap l' hl' hc1 hc2 hc3 =>
        rw [hl] at hl'; cases hl'
        exact ⟨_,hv2,done_value (hrun _ _ _ _ hq hi0 hi1) (by rw [← b1,← Nat.add_mul,← Nat.add_zero ((lo+i.toNat) * l.s)]; exact .row id (lo+i.toNat) 0 l hl) hH.lt⟩
      | ownE=>exfalso; omega
    · obtain ⟨hz, hv1⟩ := chk_some hv
      obtain rfl:lo=0:=Nat.eq_of_beq_eq_true hz
      obtain ⟨hb,hv2⟩:=ixA_some hv1
      obtain ⟨hi0,hi1⟩:=inb_iff hb
      rw [e] at h1
      generalize hq:a.eval x=q at h1
      cases h1 with
      | own _ _ _ cap l' hl' hc1 hc2 hc3 =>
        exact ⟨_,hv2,done_value (hrun _ _ _ _ hq hi0 hi1) (by rw [Nat.zero_mul,Nat.zero_add]; exact .ptr id _ l' hl') hH.lt⟩
      | ownE=>exfalso; omega
    · cases hv
  · cases hv
theorem op_indexArr {ty:TypeId} {x ix:Operand} {n es sz:Nat} {ea:Bool} {kd:IntKind} {i:Int} {k:Out U El→Option (Fin U El)} (hX:CtxOk P X) (ho:o.op = .indexAddr ty x ix) (htd:tdGet X.tds ty=some (.arr n es ea sz)) (hix:oget t ix = .int kd i)
    (hv:(match oget t x with
      | .ptr id off=>ixA n i fun q=>k ⟨.ptr id (off+q * es),[]⟩
      | .row id j off=>ixA n i fun q=>k ⟨.row id j (off+q * es),[]⟩
      | .pel u xs j off=>ixA n i fun q=>k ⟨.pel u xs j (off+q * es),[]⟩
      | .pcs cs off=>ixA n i fun q=>k ⟨.pcs cs (off+q * es),[]⟩
      | _=>none)=some r)
    (hT:TRel X.E S ρ w o t a) (hlt:∀ b,S b→b < w.heap.size):∃ out,k out=some r∧OpDone P X.E S ρ w o a d out:=by
  have h1:=hT.get (x:=x) (by simp [ho,Op.operands])
  have h2:=hT.get (x:=ix) (by simp [ho,Op.operands])
  obtain ⟨e,hu,_,⟨inf,hi,hsz⟩,_⟩:=hX.td _ _ htd
  rw [hix] at h2
  generalize hq2:a.eval ix=q2 at h2
  cases h2
  have hrun:∀ (b o':Nat),a.eval x = .pointer (some ⟨b,o',none⟩)→inb i n=true→(execOp a.eval o).run P w = .ok (.value (.pointer (some ⟨b,o'+i.toNat * es,none⟩))) w:=fun b o' e hb=>by
    obtain ⟨h0,hl⟩:=inb_iff hb
    simp [execOp,ho,Instr.indexAt,asIntOf,hq2,run_underlying hu,Instr.sureAddr,e,h0,hl,run_szT hi,hsz,addr_add]
  split at hv
  · rename_i id o' e; obtain ⟨hb,hv⟩:=ixA_some hv; rw [e] at h1; generalize hq:a.eval x=q at h1; cases h1 with | ptr _ _ l hl=>exact ⟨_,hv,done_value (hrun _ _ hq hb) (.ptr id _ l hl) hlt⟩
  · rename_i id i o' e; obtain ⟨hb,hv⟩:=ixA_some hv; rw [e] at h1; generalize hq:a.eval x=q at h1; cases h1 with | row _ _ _ l hl=>exact ⟨_,hv,done_value (hrun _ _ hq hb) (by rw [Nat.add_assoc]; exact .row id _ _ l hl) hlt⟩
  · rename_i u xs i o' e; obtain ⟨hb,hv⟩:=ixA_some hv; rw [e] at h1; generalize hq:a.eval x=q at h1; cases h1 with | pel _ _ _ _ b o2 cap hl hi=>exact ⟨_,hv,done_value (hrun _ _ hq hb) (by rw [Nat.add_assoc]; exact .pel u xs _ _ b o2 cap hl hi) hlt⟩
  · rename_i cs o' e; obtain ⟨hb,hv⟩:=ixA_some hv; rw [e] at h1; generalize hq:a.eval x=q at h1; cases h1 with | pcs _ _ b o2 val hS hcell hr=>exact ⟨_,hv,done_value (hrun _ _ hq hb) (by rw [Nat.add_assoc]; exact .pcs cs _ b o2 val hS hcell hr) hlt⟩
  · cases hv
theorem op_indexStr {ty:TypeId} {x ix:Operand} {kd:IntKind} {i:Int} {s:List UInt8} (hX:CtxOk P X) (ho:o.op = .index ty x ix) (htd:tdGet X.tds ty=some .str) (hix:oget t ix = .int kd i) (hx:oget t x = .str s) (hb:inb i s.length=true)
    (hT:TRel X.E S ρ w o t a) (hlt:∀ b,S b→b < w.heap.size):OpDone P X.E S ρ w o a d ⟨.int .u8 (s.getD i.toNat 0).toNat,[]⟩:=by
  have h1:=hT.get (x:=x) (by simp [ho,Op.operands])
  have h2:=hT.get (x:=ix) (by simp [ho,Op.operands])
  have hu:P.underlying ty=some .string:=hX.td _ _ htd
  rw [hix] at h2
  rw [hx] at h1
  generalize hq:a.eval x=q at h1
  generalize hq2:a.eval ix=q2 at h2
  cases h2
  cases h1
  obtain ⟨h0,hl⟩:=inb_iff hb
  have hj:i.toNat < s.length:=by omega
  have hg:(⟨s.toArray⟩:ByteArray)[i.toNat]? = some (s.getD i.toNat 0):=by
    have hsz:i.toNat < (⟨s.toArray⟩:ByteArray).size:=by simpa [ByteArray.size] using hj
    rw [getElem?_pos (⟨s.toArray⟩:ByteArray) i.toNat hsz]
    simp [ByteArray.getElem_eq_getElem_data,List.getD,List.getElem?_eq_getElem hj]
  refine done_value ?_ (.int _ _) hlt
  simp [execOp,ho,Instr.index,asIntOf,hq,hq2,run_underlying hu,h0,hg]
theorem op_indexAgg {ty:TypeId} {x ix:Operand} {n es sz:Nat} {ea:Bool} {kd:IntKind} {i:Int} {cs:List (AV U El)} {k:Out U El→Option (Fin U El)} (hX:CtxOk P X) (ho:o.op = .index ty x ix) (htd:tdGet X.tds ty=some (.arr n es ea sz)) (hix:oget t ix = .int kd i) (hx:oget t x = .agg cs) (hb:inb i n=true)
    (hv:partOf cs (i.toNat * es) es ea (fun v=>k ⟨v,[]⟩)=some r)
    (hT:TRel X.E S ρ w o t a) (hlt:∀ b,S b→b < w.heap.size):∃ out,k out=some r∧OpDone P X.E S ρ w o a d out:=by
  have h1:=hT.get (x:=x) (by simp [ho,Op.operands])
  have h2:=hT.get (x:=ix) (by simp [ho,Op.operands])
  obtain ⟨e,hu,_,⟨inf,hi,hsz⟩,⟨dd,hd,hag⟩⟩:=hX.td _ _ htd
  rw [hix] at h2
  rw [hx] at h1
  generalize hq:a.eval x=q at h1
  generalize hq2:a.eval ix=q2 at h2
  cases h2
  obtain ⟨h0,hl⟩:=inb_iff hb
  cases h1 with
  | agg _ vs hlen hc =>
    obtain ⟨av,v,hk,hrun,hr⟩:=part_rel ⟨dd,hd,hag⟩ ⟨inf,hi,hsz⟩ hlen hc hv
    refine ⟨_,hk,done_value (v:=v) ?_ hr hlt⟩
    simp [execOp,ho,Instr.index,asIntOf,hq,hq2,run_underlying hu,h0,hl,run_szT hi,hsz,hrun]
end
end Go.Proofs.Ytkeplmpcijigaaa
