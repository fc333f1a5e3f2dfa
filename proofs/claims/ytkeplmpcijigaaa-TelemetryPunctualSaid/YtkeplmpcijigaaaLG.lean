/- The operations of a region, on: literals and new slices. -/
import Derived.Test.YtkeplmpcijigaaaLF
import Derived.Great.BuildSlice
namespace Go.Proofs.Ytkeplmpcijigaaa
set_option linter.unusedVariables false
set_option linter.unusedSectionVars false
set_option linter.unusedSimpArgs false
open Go.RowKit
section
variable {U:Type} {El:U→Type} {P:Program} {X:Ctx U El} {S:Nat→Prop} {ρ:Rho} {w:World} [DecidableEq U] [Drw]
variable {o:Oper} {a:Act} {t:Tmps U El} {h H:Heap U El} {B:Bd} {d:Nat} {r:Fin U El}
theorem foldl_zip (off:Nat) (cs cells:Array Value):(cs.zipIdx.foldl (fun cs (x:Value×Nat)=>cs.setIfInBounds (off+x.2) x.1) cells)=((cs.toList.zipIdx 0).foldl (fun cs (x:Value×Nat)=>cs.setIfInBounds (off+x.2) x.1) cells):=by
  rw [← Array.foldl_toList,Array.toList_zipIdx]
theorem fill_struct {place : Nat → Option (Nat × Nat)} {Z : List (AV U El)} : ∀ (fs : List (Nat × Nat × Bool)) (ps : List (Nat × Operand)) (n acc : Nat) (cells : Array Value) (cs : List (AV U El)),
    litCells t Z n acc fs ps=some cs→(∀ i f,fs[i]? = some f→place (n+i)=some (f.1,f.2.1))→acc+cs.length≤cells.size →
    (∀ p∈ps,Rel X.E S ρ w (oget t p.2) (a.eval p.2))→(∀ (j:Nat) c,acc≤j→Z[j]? = some c→∃ v,cells[j]? = some v∧Rel X.E S ρ w c v) →
    ∃ r, Instr.fill place cells (ps.map fun p => (p.1, a.eval p.2)) = some r ∧ r.size = cells.size ∧ (∀ k, k < acc → r[k]? = cells[k]?) ∧
      ∀ (j:Nat) c,cs[j]? = some c→∃ v,r[acc+j]? = some v∧Rel X.E S ρ w c v:=by
  intro fs
  induction fs with
  | nil =>
    intro ps n acc cells cs hl hp hc hr hZ
    cases ps with
    | nil=>simp [litCells] at hl; subst hl; exact ⟨cells,rfl,rfl,fun _ _=>rfl,by simp⟩
    | cons p ps=>simp [litCells] at hl
  | cons f fs ih =>
    intro ps n acc cells cs hl hp hc hr hZ
    obtain ⟨off,sz,ag⟩:=f
    have skip:∀ ps:List (Nat×Operand),(∀ p∈ps,Rel X.E S ρ w (oget t p.2) (a.eval p.2))→(bif Nat.beq off acc&&Nat.ble (acc+sz) Z.length then
        match litCells t Z (n+1) (acc+sz) fs ps with
        | some r=>some ((Z.drop acc).take sz++r)
        | none=>none
      else none)=some cs→∃ r,Instr.fill place cells (ps.map fun p=>(p.1,a.eval p.2))=some r∧r.size=cells.size∧(∀ k,k < acc→r[k]? = cells[k]?) ∧
        ∀ (j:Nat) c,cs[j]? = some c→∃ v,r[acc+j]? = some v∧Rel X.E S ρ w c v:=by
      intro ps hr hl
      cases hb:(Nat.beq off acc&&Nat.ble (acc+sz) Z.length) with
      | false=>rw [hb] at hl; cases hl
      | true =>
        rw [hb] at hl
        simp only [cond] at hl
        simp only [Bool.and_eq_true] at hb
        obtain rfl:=Nat.eq_of_beq_eq_true hb.1
        have hle:=Nat.le_of_ble_eq_true hb.2
        split at hl
        · rename_i rest hrest
          cases hl
          have hlen:((Z.drop off).take sz).length=sz:=by simp; omega
          rw [List.length_append,hlen] at hc
          obtain ⟨r,hf,hsz,hlow,hcs⟩:=ih ps (n+1) (off+sz) cells rest hrest
            (fun j f hf=>by have:=hp (j+1) f (by simpa using hf); rwa [show n+(j+1)=n+1+j by omega] at this) (by omega) hr (fun j c hj hc=>hZ j c (by omega) hc)
          refine ⟨r,hf,hsz,fun k hk=>hlow k (by omega),fun j c hj => ?_⟩
          by_cases hlt:j < sz
          · rw [List.getElem?_append_left (by omega)] at hj
            rw [List.getElem?_take_of_lt hlt,List.getElem?_drop] at hj
            obtain ⟨v,hv,hr'⟩:=hZ (off+j) c (by omega) hj
            exact ⟨v,by rw [hlow (off+j) (by omega)]; exact hv,hr'⟩
          · rw [List.getElem?_append_right (by omega), hlen] at hj
            obtain ⟨v,hv,hr'⟩:=hcs _ c hj
            rw [show off+sz+(j - sz)=off+j by omega] at hv
            exact ⟨v,hv,hr'⟩
        · cases hl
    cases ps with
    | nil =>
      simp only [litCells] at hl
      exact skip [] hr hl
    | cons p ps =>
      obtain ⟨i,x⟩:=p
      simp only [litCells] at hl
      cases hb0:Nat.beq i n with
      | false=>rw [hb0] at hl; exact skip _ hr hl
      | true =>
      cases hb:Nat.beq off acc with
      | false=>rw [hb0,hb] at hl; cases hl
      | true =>
        rw [hb0,hb] at hl
        simp only [cond] at hl
        obtain rfl:=Nat.eq_of_beq_eq_true hb0
        obtain rfl:=Nat.eq_of_beq_eq_true hb
        split at hl
        · rename_i ns hns
          cases hb2:Nat.beq ns.length sz with
          | false=>rw [hb2] at hl; cases hl
          | true =>
            rw [hb2] at hl
            simp only [cond] at hl
            obtain rfl:=Nat.eq_of_beq_eq_true hb2
            split at hl
            · rename_i rest hrest
              cases hl
              obtain ⟨h2,h3⟩:=cellsOf_rel (hr (i,x) (by simp)) hns
              simp only at h2 h3
              obtain ⟨g1,g2⟩:=Great.foldl_set off (a.eval x).cells.toList 0 cells
              simp only [List.length_append] at hc
              obtain ⟨r,hf,hsz,hlow,hcs⟩:=ih ps (i+1) (off+ns.length) ((a.eval x).cells.zipIdx.foldl (fun cs (x:Value×Nat)=>cs.setIfInBounds (off+x.2) x.1) cells) rest hrest
                (fun j f hf=>by have:=hp (j+1) f (by simpa using hf); rwa [show i+(j+1)=i+1+j by omega] at this) (by rw [foldl_zip,g1]; omega) (fun p hp'=>hr p (by simp [hp']))
                (fun j c hj hc=>by
                  obtain ⟨v,hv,hr'⟩:=hZ j c (by omega) hc
                  exact ⟨v,by rw [foldl_zip,g2 j,if_neg (by simp [h2]; omega)]; exact hv,hr'⟩)
              have hsz':r.size=cells.size:=by rw [hsz,foldl_zip,g1]
              refine ⟨r,?_,hsz',fun k hk => ?_,fun j c hj => ?_⟩
              · simp only [List.map_cons]
                unfold Instr.fill
                have hpl:place i=some (off,ns.length):=by have:=hp 0 _ rfl; simpa using this
                rw [hpl]
                simp only [h2]
                rw [if_neg (by simp; omega)]
                exact hf
              · rw [hlow k (by omega),foldl_zip,g2 k,if_neg (by omega)]
              · by_cases hlt : j < ns.length
                · have hjl : j < (a.eval x).cells.size := by rw [h2]; exact hlt
                  rw [List.getElem?_append_left hlt] at hj
                  refine ⟨_,?_,h3 j c _ hj (Array.getElem?_eq_getElem hjl)⟩
                  rw [hlow (off+j) (by omega),foldl_zip,g2,if_pos ⟨by omega,by simp [h2]; omega,by omega⟩]
                  simp [hjl]
                · rw [List.getElem?_append_right (by omega)] at hj
                  obtain ⟨v,hv,hr'⟩:=hcs _ c hj
                  rw [show off+ns.length+(j - ns.length)=off+j by omega] at hv
                  exact ⟨v,hv,hr'⟩
            · cases hl
        · cases hl
theorem fill_set {place : Nat → Option (Nat × Nat)} {fs : List (Nat × Nat × Bool)} (hp : ∀ i f, fs[i]? = some f → place i = some (f.1, f.2.1)) : ∀ (ps : List (Nat × Operand)) (cells : Array Value) (cs out : List (AV U El)),
    litSet t fs cs ps=some out→cs.length≤cells.size→(∀ p∈ps,Rel X.E S ρ w (oget t p.2) (a.eval p.2))→(∀ (j:Nat) c,cs[j]? = some c→∃ v,cells[j]? = some v∧Rel X.E S ρ w c v) →
    ∃ r,Instr.fill place cells (ps.map fun p=>(p.1,a.eval p.2))=some r∧r.size=cells.size∧out.length=cs.length∧∀ (j:Nat) c,out[j]? = some c→∃ v,r[j]? = some v∧Rel X.E S ρ w c v:=by
  intro ps
  induction ps with
  | nil=>intro cells cs out hl hc hr hZ; simp only [litSet,Option.some.injEq] at hl; subst hl; exact ⟨cells,rfl,rfl,rfl,hZ⟩
  | cons p ps ih =>
    intro cells cs out hl hc hr hZ
    obtain ⟨i,x⟩:=p
    simp only [litSet] at hl
    split at hl
    · rename_i off sz ag hf
      split at hl
      · rename_i ns hns
        cases hb:(Nat.beq ns.length sz&&Nat.ble (off+sz) cs.length) with
        | false=>rw [hb] at hl; cases hl
        | true =>
          rw [hb,cond_true] at hl
          simp only [Bool.and_eq_true] at hb
          obtain rfl:=Nat.eq_of_beq_eq_true hb.1
          have hle:=Nat.le_of_ble_eq_true hb.2
          obtain ⟨h2,h3⟩:=cellsOf_rel (hr (i,x) (by simp)) hns
          simp only at h2 h3
          obtain ⟨g1,g2⟩:=Great.foldl_set off (a.eval x).cells.toList 0 cells
          have hlen:(cs.take off++(ns++cs.drop (off+ns.length))).length=cs.length:=by simp; omega
          obtain ⟨r,hfl,hsz,hln,hcs⟩:=ih ((a.eval x).cells.zipIdx.foldl (fun cs (x:Value×Nat)=>cs.setIfInBounds (off+x.2) x.1) cells) _ out hl (by rw [hlen,foldl_zip,g1]; exact hc) (fun p hp'=>hr p (by simp [hp'])) (fun j c hj=>by
            rw [foldl_zip,g2 j]
            by_cases h0:j < off
            · rw [List.getElem?_append_left (by simp; omega), List.getElem?_take_of_lt h0] at hj
              obtain ⟨v,hv,hr'⟩:=hZ j c hj
              exact ⟨v,by rw [if_neg (by omega)]; exact hv,hr'⟩
            · rw [List.getElem?_append_right (by simp; omega)] at hj
              have hto:(cs.take off).length=off:=by simp; omega
              rw [hto] at hj
              by_cases h1:j - off < ns.length
              · rw [List.getElem?_append_left h1] at hj
                have hjl:j - off < (a.eval x).cells.size:=by rw [h2]; exact h1
                refine ⟨_,?_,h3 _ c _ hj (Array.getElem?_eq_getElem hjl)⟩
                rw [if_pos ⟨by omega,by simp [h2]; omega,by omega⟩]
                simp [hjl]
              · rw [List.getElem?_append_right (by omega), List.getElem?_drop] at hj
                obtain ⟨v,hv,hr'⟩:=hZ j c (by rw [show off+ns.length+(j - off - ns.length)=j by omega] at hj; exact hj)
                exact ⟨v,by rw [if_neg (by simp [h2]; omega)]; exact hv,hr'⟩)
          refine ⟨r,?_,by rw [hsz,foldl_zip,g1],by rw [hln,hlen],hcs⟩
          simp only [List.map_cons]
          unfold Instr.fill
          rw [hp i _ hf]
          simp only [h2]
          rw [if_neg (by simp; omega)]
          exact hfl
      · cases hl
    · cases hl
theorem zeroCells_rel (hX:CtxOk P X) {ty:TypeId} {i:TypeInfo} {z:Value} (hi:P.info? ty=some i) (hz:i.zero=some z) (j:Nat) (c:AV U El) (hj:(zeroCells X.zeros ty:List (AV U El))[j]? = some c) :
    ∃ v,z.cells[j]? = some v∧Rel X.E S ρ w c v:=by
  unfold zeroCells at hj
  split at hj
  · rename_i z' hz'
    obtain ⟨i',hi',hzz⟩:=hX.z _ _ hz'
    rw [hi] at hi'; cases hi'
    rw [hz] at hzz; cases hzz
    have hl:j < z.cells.toList.length:=by rw [← constL_len (U:=U) (El:=El)]; exact (List.getElem?_eq_some_iff.1 hj).1
    exact ⟨_,by rw [← Array.getElem?_toList]; exact List.getElem?_eq_getElem hl,constL_get _ j c _ hj (List.getElem?_eq_getElem hl)⟩
  · simp at hj
theorem op_build {ty : TypeId} {ps : Array (Nat × Operand)} {k : Out U El → Option (Fin U El)} (hX : CtxOk P X) (ho : o.op = .build ty ps)
    (hv:evalOp X o t h d k=some r) (hT:TRel X.E S ρ w o t a) (hlt:∀ b,S b→b < w.heap.size):∃ out,k out=some r∧OpDone P X.E S ρ w o a d out:=by
  have hops:∀ p∈ps.toList,Rel X.E S ρ w (oget t p.2) (a.eval p.2):=fun p hp=>hT.get (by simp [ho,Op.operands]; exact ⟨p.1,by simpa using hp⟩)
  have hmap:(ps.map fun (i,x)=>(i,a.eval x)).toList=ps.toList.map fun p=>(p.1,a.eval p.2):=by simp
  simp only [evalOp,ho] at hv
  split at hv
  · rename_i fs sz htd
    split at hv
    · rename_i cs hcs
      obtain ⟨h0,hv1⟩:=chk_some hv
      obtain ⟨fields,hu,⟨i,hi,hsz,z,hz,hzs⟩,_,_,hfs,hft⟩:=hX.td _ _ htd
      have hl:cs.length=sz:=Nat.eq_of_beq_eq_true h0
      have hpl:fields.mapM (fun f=>(do pure (f.offset,← sizeOf f.type):Sem (Nat×Nat)))=fields.mapM (fun f=>(do pure (f.offset,← sizeOf f.type):Sem (Nat×Nat))):=rfl
      have hplaces:∀ (l:List Field),(∀ f∈l,∃ i,P.info? f.type=some i)→(l.mapM (fun f=>(do pure (f.offset,← sizeOf f.type):Sem (Nat×Nat)))).run P w = .ok (l.map fun f=>(f.offset,szT P f.type)) w:=by
        intro l hl'
        induction l with
        | nil=>simp
        | cons f l ih =>
          obtain ⟨i',hi'⟩:=hl' f (by simp)
          simp only [List.mapM_cons,Sem.run_bind,run_szT hi',Result.andThen_ok,Sem.run_pure,ih (fun g hg=>hl' g (by simp [hg])),List.map_cons,szT_eq hi']
      have hpa:=hplaces fields.toList (fun f hf=>by obtain ⟨_,i',hi',_⟩:=hft f hf; exact ⟨i',hi'⟩)
      have hpa2:(fields.mapM (fun f=>(do pure (f.offset,← sizeOf f.type):Sem (Nat×Nat)))).run P w = .ok (fields.toList.map fun f=>(f.offset,szT P f.type)).toArray w:=by
        rw [Array.mapM_eq_mapM_toList]
        simp only [Sem.run_map,hpa,Result.andThen_ok]
      have hplf:∀ (j:Nat) (f:Nat×Nat×Bool),fs[j]? = some f→(fields.toList.map fun f=>(f.offset,szT P f.type)).toArray[j]? = some (f.1,f.2.1):=fun j f hj=>by
        rw [hfs] at hj
        simp only [List.getElem?_map,Option.map_eq_some_iff] at hj
        obtain ⟨fl,hfl,rfl⟩:=hj
        have hfl':fields[j]? = some fl:=by simpa using hfl
        simp [hfl']
      obtain ⟨rr,hf,hrs,hrc⟩:∃ r,Instr.fill (fun j=>(fields.toList.map fun f=>(f.offset,szT P f.type)).toArray[j]?) z.cells (ps.toList.map fun p=>(p.1,a.eval p.2))=some r∧r.size=z.cells.size∧∀ (j:Nat) c,cs[j]? = some c→∃ v,r[j]? = some v∧Rel X.E S ρ w c v:=by
        unfold litAny at hcs
        split at hcs
        · rename_i cs' hcs'
          cases hcs
          obtain ⟨rr,hf,hrs,_,hrc⟩:=fill_struct (X:=X) (S:=S) (ρ:=ρ) (w:=w) (a:=a) (place:=fun j=>(fields.toList.map fun f=>(f.offset,szT P f.type)).toArray[j]?) fs ps.toList 0 0 z.cells cs hcs' (fun j f hj=>by rw [Nat.zero_add]; exact hplf j f hj) (by omega) hops (fun j c _ hj=>zeroCells_rel hX hi hz j c hj)
          exact ⟨rr,hf,hrs,fun j c hj=>by simpa using hrc j c hj⟩
        · have hzl : (zeroCells X.zeros ty : List (AV U El)).length ≤ z.cells.size := by
            cases hn:(zeroCells X.zeros ty:List (AV U El)).length with
            | zero=>omega
            | succ n =>
              obtain ⟨v,hv,_⟩:=zeroCells_rel (S:=S) (ρ:=ρ) (w:=w) hX hi hz n _ (List.getElem?_eq_getElem (by omega))
              exact (Array.getElem?_eq_some_iff.1 hv).1
          obtain ⟨rr,hf,hrs,_,hrc⟩:=fill_set (X:=X) (S:=S) (ρ:=ρ) (w:=w) (a:=a) (place:=fun j=>(fields.toList.map fun f=>(f.offset,szT P f.type)).toArray[j]?) hplf ps.toList z.cells _ cs hcs hzl hops (fun j c hj=>zeroCells_rel hX hi hz j c hj)
          exact ⟨rr,hf,hrs,hrc⟩
      refine ⟨_,hv1,done_value (v := .agg rr) ?_ (.agg _ _ (by omega) fun j c v hj hvv => ?_) hlt⟩
      · simp only [execOp,ho,Instr.build,Sem.run_bind,zeroValue,typeInfo,run_program,hi,hz,Result.andThen_ok,Sem.run_pure,run_underlying hu,hpa2,hmap,hf]
      · obtain ⟨v', hv', hr'⟩ := hrc j c hj
        rw [hvv] at hv'
        cases hv'
        exact hr'
    · cases hv
  · rename_i n es ea sz htd
    split at hv
    · rename_i cs hcs
      obtain ⟨h0,hv1⟩:=chk_some hv
      obtain ⟨e,hu,⟨i,hi,hsz,z,hz,hzs⟩,⟨ie,hie,hes⟩,_⟩:=hX.td _ _ htd
      have hl:cs.length=sz:=Nat.eq_of_beq_eq_true h0
      obtain ⟨rr,hf,hrs,_,hrc⟩:=fill_struct (X:=X) (S:=S) (ρ:=ρ) (w:=w) (a:=a) (place:=fun j=>some (j * es,es)) _ ps.toList 0 0 z.cells cs hcs
        (fun j f hj=>by
          simp only [List.getElem?_map,Option.map_eq_some_iff] at hj
          obtain ⟨q,hq,rfl⟩:=hj
          have:q=j:=by
            have:=(List.getElem?_eq_some_iff.1 hq)
            obtain ⟨_,e⟩:=this
            simpa using e.symm
          simp [this]) (by omega) hops (fun j c _ hj=>zeroCells_rel hX hi hz j c hj)
      refine ⟨_,hv1,done_value (v := .agg rr) ?_ (.agg _ _ (by omega) fun j c v hj hvv => ?_) hlt⟩
      · simp only [execOp,ho,Instr.build,Sem.run_bind,zeroValue,typeInfo,run_program,hi,hz,Result.andThen_ok,Sem.run_pure,run_underlying hu,run_szT hie,hes,hmap,hf]
      · obtain ⟨v', hv', hr'⟩ := hrc j c hj
        rw [Nat.zero_add,hvv] at hv'
        cases hv'
        exact hr'
    · cases hv
  · cases hv
theorem litRows_get {u : U} (hX : CtxOk P X) : ∀ (ps : List (Nat × Operand)) (n : Nat) (xs : List (El u)), litRows X.E u t n ps = some xs → (∀ p ∈ ps, Rel X.E S ρ w (oget t p.2) (a.eval p.2)) →
    (ps.map fun p=>(p.1,a.eval p.2))=(((ps.map fun p=>a.eval p.2).zipIdx n).map fun x=>(x.2,x.1))∧xs.length=ps.length∧(∀ p∈ps,(a.eval p.2).cells.size=X.E.sz u) ∧
    ∀ (i:Nat) x (j:Nat) c p,xs[i]? = some x→(X.E.enc u x)[j]? = some c→ps[i]? = some p→∃ v,(a.eval p.2).cells[j]? = some v∧Rel X.E S ρ w c v:=by
  intro ps
  induction ps with
  | nil=>intro n xs hl hr; simp [litRows] at hl; subst hl; simp
  | cons p ps ih =>
    intro n xs hl hr
    obtain ⟨i,x⟩:=p
    simp only [litRows] at hl
    cases hb:Nat.beq i n with
    | false=>rw [hb] at hl; cases hl
    | true =>
      rw [hb] at hl
      simp only [cond] at hl
      obtain rfl:=Nat.eq_of_beq_eq_true hb
      split at hl
      · rename_i cs hcs
        split at hl
        · rename_i y hy
          split at hl
          · rename_i ys hys
            cases hl
            obtain ⟨e1,e2,e3,e4⟩:=ih (i+1) ys hys (fun p hp=>hr p (by simp [hp]))
            obtain ⟨h2,h3⟩:=cellsOf_rel (hr (i,x) (by simp)) hcs
            simp only at h2 h3
            obtain ⟨d1,d2⟩:=hX.u.dec _ _ _ hy
            refine ⟨by simp [e1],by simp [e2],fun p hp => ?_,fun k z j c p hk hj hp => ?_⟩
            · simp at hp
              rcases hp with rfl | hp
              · simp [h2,d1]
              · exact e3 p hp
            · cases k with
              | zero =>
                simp at hk hp
                subst hk hp
                obtain ⟨c',hc',hor⟩:=d2 j c hj
                have hjl:j < (a.eval x).cells.size:=by rw [h2]; exact (List.getElem?_eq_some_iff.1 hc').1
                have hr':=h3 j c' _ hc' (Array.getElem?_eq_getElem hjl)
                refine ⟨_,Array.getElem?_eq_getElem hjl,?_⟩
                rcases hor with rfl | ⟨rfl,u',rfl⟩
                · exact hr'
                · generalize hq : (a.eval x).cells[j] = q at hr'
                  cases hr'
                  exact .lstE u' _ _
              | succ k=>exact e4 k z j c p (by simpa using hk) hj (by simpa using hp)
          · cases hl
        · cases hl
      · cases hl
theorem idx_split {i j s:Nat} (h:j < s):(i * s+j) / s=i∧(i * s+j)%s=j:=by
  constructor
  · rw [Nat.mul_comm,Nat.mul_add_div (by omega),Nat.div_eq_of_lt h,Nat.add_zero]
  · rw [Nat.mul_comm,Nat.mul_add_mod,Nat.mod_eq_of_lt h]
theorem litBox_get : ∀ (ps : List (Nat × Operand)) (n : Nat) (cs : List (AV U El)), litBox t n ps = some cs → (∀ p ∈ ps, Rel X.E S ρ w (oget t p.2) (a.eval p.2)) →
    (ps.map fun p=>(p.1,a.eval p.2))=(((ps.map fun p=>a.eval p.2).zipIdx n).map fun x=>(x.2,x.1))∧cs.length=ps.length∧(∀ p∈ps,(a.eval p.2).cells.size=1) ∧
    ∀ (i:Nat) c p,cs[i]? = some c→ps[i]? = some p→∃ v,(a.eval p.2).cells[0]? = some v∧Rel X.E S ρ w c v:=by
  intro ps
  induction ps with
  | nil=>intro n cs hl hr; simp [litBox] at hl; subst hl; simp
  | cons p ps ih =>
    intro n cs hl hr
    obtain ⟨i,x⟩:=p
    simp only [litBox] at hl
    cases hb:Nat.beq i n with
    | false=>rw [hb] at hl; cases hl
    | true =>
      rw [hb,cond_true] at hl
      obtain rfl:=Nat.eq_of_beq_eq_true hb
      split at hl
      · rename_i c hc
        split at hl
        · rename_i ys hys
          cases hl
          obtain ⟨e1,e2,e3,e4⟩:=ih (i+1) ys hys (fun p hp=>hr p (by simp [hp]))
          obtain ⟨h2,h3⟩:=cellsOf_rel (hr (i,x) (by simp)) hc
          simp only at h2 h3
          have h2:(a.eval x).cells.size=1:=by simpa using h2
          refine ⟨by simp [e1],by simp [e2],fun p hp => ?_,fun k c' p hk hp => ?_⟩
          · simp at hp
            rcases hp with rfl | hp
            · exact h2
            · exact e3 p hp
          · cases k with
            | zero =>
              simp at hk hp
              subst hk hp
              have hjl:0 < (a.eval x).cells.size:=by omega
              exact ⟨_,Array.getElem?_eq_getElem hjl,h3 0 c _ rfl (Array.getElem?_eq_getElem hjl)⟩
            | succ k=>exact e4 k c' p (by simpa using hk) (by simpa using hp)
        · cases hl
      · cases hl
theorem op_buildSlice {ty : TypeId} {n : Nat} {ps : Array (Nat × Operand)} {k : Out U El → Option (Fin U El)} (hX : CtxOk P X) (ho : o.op = .buildSlice ty n ps)
    (hv:evalOp X o t h d k=some r) (hT:TRel X.E S ρ w o t a) (hlt:∀ b,S b→b < w.heap.size) (hd:ρ d=none):∃ out,k out=some r∧OpDone P X.E S ρ w o a d out:=by
  have hops:∀ p∈ps.toList,Rel X.E S ρ w (oget t p.2) (a.eval p.2):=fun p hp=>hT.get (by simp [ho,Op.operands]; exact ⟨p.1,by simpa using hp⟩)
  have hmap:(ps.map fun (i,x)=>(i,a.eval x)).toList=ps.toList.map fun p=>(p.1,a.eval p.2):=by simp
  simp only [evalOp,ho] at hv
  split at hv
  · rename_i u htd
    cases hbx:Nat.blt 0 (X.E.boxS ty) with
    | true =>
      rw [hbx,cond_true] at hv
      obtain ⟨h0,hv1⟩:=chk_some hv
      clear hv
      simp only [Bool.and_eq_true] at h0
      obtain ⟨a0,a1,a2,a3⟩:=h0
      have hn:n=ps.size:=Nat.eq_of_beq_eq_true a0
      have a1:=Nat.eq_of_beq_eq_true a1
      have a2:=Nat.le_of_ble_eq_true a2
      have a3:X.E.sz u=1:=Nat.eq_of_beq_eq_true a3
      have hn1:0 < n:=by rw [a1]; exact Nat.le_of_ble_eq_true hbx
      split at hv1
      · rename_i cs hcs
        have hu:P.underlying ty=some (.slice (X.E.tid u)):=hX.td _ _ htd
        obtain ⟨ie,z,hi,hsz,hby,hz,hzs,_⟩:=hX.u.info u
        obtain ⟨e1,e2,e3,e4⟩:=litBox_get (S:=S) (ρ:=ρ) (w:=w) (a:=a) ps.toList 0 cs hcs hops
        obtain ⟨rr,hf,hrs,hrc⟩:=Great.fill_dense (s:=1) (by omega) (ps.toList.map fun p=>a.eval p.2) 0 ((Array.range (n * 1)).map (z.cells[· % z.cells.size]!)) (by intro v hv; obtain ⟨p,hp,rfl⟩:=List.mem_map.1 hv; exact e3 p hp) (by simp [hn])
        have hrun:=run_buildSlice (P:=P) w ty (X.E.tid u) n (ps.map fun (i,x)=>(i,a.eval x)) rr ie z hu hi hz (by rw [hsz,a3]; omega) (by rw [hsz,a3]; omega) (by rw [hsz,a3,hmap,e1]; exact hf)
        have hrs':rr.size=n:=by rw [hrs]; simp
        have hxl:cs.length=n:=by rw [e2,hn]; simp
        refine ⟨_,hv1,done_new (v := .slice (some ⟨w.heap.size,0,none⟩) n n) (c:=rr) (e:=X.E.tid u) ⟨w.heap.size,n,1,n⟩ (by simp [newIds,ho]) hd ?_ hlt (fun _=>rfl) (fun ρ' e1 e2 => ?_)
          (fun ρ' f1 f2 hns=>⟨.inl rfl,by simp [hxl],fun _=>⟨Nat.le_refl _,hns,_,_,heap_new _ _,by rw [hrs'],fun j c hjc => ?_⟩⟩)⟩
        · simp only [execOp,ho,Sem.run_bind,hrun,Result.andThen_ok,Sem.run_pure]
        · exact Rel.own d 0 n n ⟨w.heap.size,n,1,n⟩ e1 (by simp) (Nat.le_refl _) (by simp)
        · have hjl : j < n := by rw [← hxl]; exact (List.getElem?_eq_some_iff.1 hjc).1
          have hpi:j < ps.toList.length:=by simp; omega
          obtain ⟨v,hvv,hrv⟩:=e4 j c _ hjc (List.getElem?_eq_getElem hpi)
          refine ⟨v,?_,hrv.mono (fun _ h=>h) (fun b hb=>heap_alloc_old w _ b (hlt b hb)) f2⟩
          have hkk:=hrc j
          rw [if_pos (by simp [hn] at hjl ⊢; exact hjl),Nat.sub_zero,Nat.div_one,Nat.mod_one] at hkk
          rw [hkk]
          simp only [List.getElem?_map,List.getElem?_eq_getElem hpi,Option.map_some,Option.bind_some]
          exact hvv
      · cases hv1
    | false =>
    rw [hbx,cond_false] at hv
    obtain ⟨h0,hv1⟩:=chk_some hv
    obtain ⟨h1,hv2⟩:=chk_some hv1
    split at hv2
    · rename_i xs hxs
      have hu:P.underlying ty=some (.slice (X.E.tid u)):=hX.td _ _ htd
      obtain ⟨ie,z,hi,hsz,hby,hz,hzs,_⟩:=hX.u.info u
      have hn:n=ps.size:=Nat.eq_of_beq_eq_true h0
      have hle:n * X.E.sz u≤16777216:=Nat.le_of_ble_eq_true h1
      obtain ⟨e1,e2,e3,e4⟩:=litRows_get (S:=S) (ρ:=ρ) (w:=w) (a:=a) hX ps.toList 0 xs hxs hops
      have hp:=hX.u.pos u
      by_cases hn0:n=0
      · have hps : ps = #[] := by apply Array.eq_empty_of_size_eq_zero; omega
        subst hps
        subst hn0
        have hx0:xs=[]:=List.eq_nil_of_length_eq_zero (by simpa using e2)
        subst hx0
        refine ⟨_,hv2,done_new (v := .slice (some ⟨w.heap.size,0,none⟩) 0 0) (c:=#[]) (e:=X.E.tid u) ⟨w.heap.size,0,X.E.sz u,0⟩ (by simp [newIds,ho]) hd ?_ hlt (fun h=>absurd rfl h) (fun ρ' e1 e2 => ?_) (fun ρ' e1 e2 hns=>⟨rfl,rfl,by simp,fun h=>absurd rfl h⟩)⟩
        · simp [execOp,ho,Instr.buildSlice,run_underlying hu,run_szT hi,Instr.fill,newRow,Array.range_zero']
        · exact Rel.ful d 0 ⟨w.heap.size,0,X.E.sz u,0⟩ e1 (by simp) (Nat.le_refl _)
      · obtain ⟨rr, hf, hrs, hrc⟩ := Great.fill_dense hp (ps.toList.map fun p => a.eval p.2) 0 ((Array.range (n * X.E.sz u)).map (z.cells[· % z.cells.size]!)) (by intro v hv; obtain ⟨p, hp, rfl⟩ := List.mem_map.1 hv; exact e3 p hp) (by simp [hn])
        have hrun:=run_buildSlice (P:=P) w ty (X.E.tid u) n (ps.map fun (i,x)=>(i,a.eval x)) rr ie z hu hi hz (by rw [hsz]; omega) (by rw [hsz]; have:0 < n * X.E.sz u:=Nat.mul_pos (by omega) hp; omega) (by rw [hsz,hmap,e1]; exact hf)
        have hrs':rr.size=n * X.E.sz u:=by rw [hrs]; simp
        have hxl:xs.length=n:=by rw [e2,hn]; simp
        refine ⟨_,hv2,done_new (v := .slice (some ⟨w.heap.size,0,none⟩) n n) (c:=rr) (e:=X.E.tid u) ⟨w.heap.size,n * X.E.sz u,X.E.sz u,n⟩ (by simp [newIds,ho]) hd ?_ hlt (fun _=>rfl) (fun ρ' e1 e2 => ?_) (fun ρ' f1 f2 hns=>⟨rfl,hxl.symm,by rw [hxl]; exact Nat.le_refl _,fun _=>⟨Nat.le_refl _,hns,rr,heap_new _ _,hrs',fun i x j c hix hjc => ?_⟩⟩)⟩
        · simp only [execOp,ho,Sem.run_bind,hrun,Result.andThen_ok,Sem.run_pure]
        · exact Rel.ful d n ⟨w.heap.size,n * X.E.sz u,X.E.sz u,n⟩ e1 (Nat.le_refl _) (Nat.le_refl _)
        · have hil : i < n := by rw [← hxl]; exact (List.getElem?_eq_some_iff.1 hix).1
          have hjl:j < X.E.sz u:=by rw [← hX.u.len u x]; exact (List.getElem?_eq_some_iff.1 hjc).1
          have hpi:i < ps.toList.length:=by simp; omega
          obtain ⟨v,hvv,hrv⟩:=e4 i x j c _ hix hjc (List.getElem?_eq_getElem hpi)
          obtain ⟨q1,q2⟩:=idx_split (i:=i) hjl
          have hlt':i * X.E.sz u+j < n * X.E.sz u:=by
            have:(i+1) * X.E.sz u≤n * X.E.sz u:=Nat.mul_le_mul_right _ hil
            rw [Nat.add_mul,Nat.one_mul] at this
            omega
          refine ⟨v,?_,hrv.mono (fun _ h=>h) (fun b hb=>heap_alloc_old w _ b (hlt b hb)) f2⟩
          have hkk:=hrc (i * X.E.sz u+j)
          rw [if_pos (by simp [hn] at hlt' ⊢; exact hlt'),q1,q2,Nat.sub_zero] at hkk
          rw [hkk]
          simp only [List.getElem?_map,List.getElem?_eq_getElem hpi,Option.map_some,Option.bind_some]
          exact hvv
    · cases hv2
  · cases hv
theorem made_get {z:Array Value} {n k:Nat} (hk:k < n):(madeCells z n)[k]? = some (z[k%z.size]!):=by
  simp [madeCells,hk]
theorem op_makeSlice {ty : TypeId} {n c : Operand} {k : Out U El → Option (Fin U El)} (hX : CtxOk P X) (ho : o.op = .makeSlice ty n c)
    (hv:evalOp X o t h d k=some r) (hT:TRel X.E S ρ w o t a) (hlt:∀ b,S b→b < w.heap.size) (hd:ρ d=none):∃ out,k out=some r∧OpDone P X.E S ρ w o a d out:=by
  have h1:=hT.get (x:=n) (by simp [ho,Op.operands])
  have h2:=hT.get (x:=c) (by simp [ho,Op.operands])
  simp only [evalOp,ho] at hv
  split at hv
  · rename_i u kl ln kc cp htd hn hc
    rw [hn] at h1
    rw [hc] at h2
    generalize hq:a.eval n=q at h1
    generalize hq2:a.eval c=q2 at h2
    cases h1; cases h2
    have hu:P.underlying ty=some (.slice (X.E.tid u)):=hX.td _ _ htd
    obtain ⟨ie,z,hi,hsz,hby,hz,hzs,hzr⟩:=hX.u.info u
    have hp:=hX.u.pos u
    cases hbx:Nat.blt 0 (X.E.boxS ty) with
    | true =>
      rw [hbx,cond_true] at hv
      obtain ⟨h0,hv1⟩:=chk_some hv
      clear hv
      generalize X.E.boxS ty=m at *
      simp only [Bool.and_eq_true,beq_iff_eq] at h0
      obtain ⟨⟨⟨rfl,rfl⟩,a2⟩,a3⟩:=h0
      have a2:=Nat.le_of_ble_eq_true a2
      have a3:X.E.sz u=1:=Nat.eq_of_beq_eq_true a3
      split at hv1
      · rename_i z' hz'
        obtain ⟨i',hi',hzz⟩:=hX.z _ _ hz'
        rw [hi] at hi'; cases hi'
        rw [hz] at hzz; cases hzz
        split at hv1
        · rename_i cc hcc
          obtain ⟨hcs,hcr⟩:=cellsOf_rel (Rel.const (E:=X.E) (S:=S) (ρ:=ρ) (w:=w) z) hcc
          have hrun:=run_make (P:=P) w ty (X.E.tid u) ie z hu hi hz kl kc (Int.ofNat m) (Int.ofNat m) (Int.natCast_nonneg m) (Int.le_refl _) (by rw [hby,Int.mul_comm]; show (m:Int) * (X.E.by_ u:Int)≤_; omega) (by have:m * 1≤m * X.E.by_ u:=Nat.mul_le_mul_left _ (hX.u.bpos u); show (m:Int)≤_; omega)
          rw [hsz,a3] at hrun
          refine ⟨_,hv1,done_new (v := .slice (some ⟨w.heap.size,0,none⟩) m m) (c:=madeCells z.cells m) (e:=X.E.tid u) ⟨w.heap.size,m,1,m⟩ (by simp [newIds,ho]) hd ?_ hlt (fun _=>rfl) (fun ρ' e1 e2 => ?_)
            (fun ρ' f1 f2 hns=>⟨.inl rfl,by simp,fun _=>⟨Nat.le_refl _,hns,_,_,heap_new _ _,size_madeCells _ _,fun j c hjc => ?_⟩⟩)⟩
          · simp only [execOp, ho, hq, hq2, Sem.run_bind]
            rw [show (Int.ofNat m).toNat=m from rfl,Nat.mul_one] at hrun
            simp only [hrun,Result.andThen_ok,Sem.run_pure]
          ·
            exact Rel.own d 0 m m ⟨w.heap.size,m,1,m⟩ e1 (by simp) (Nat.le_refl _) (by simp)
          · have hjl : j < m := by have := (List.getElem?_eq_some_iff.1 hjc).1; simpa using this
            rw [List.getElem?_replicate,if_pos hjl] at hjc
            cases hjc
            have hzs1:z.cells.size=1:=by rw [hzs,a3]
            have hjz:0 < z.cells.size:=by omega
            refine ⟨z.cells[0],?_,(hcr 0 cc _ rfl (Array.getElem?_eq_getElem hjz)).mono (fun _ h=>h) (fun b hb=>heap_alloc_old w _ b (hlt b hb)) f2⟩
            rw [made_get hjl,hzs1,Nat.mod_one]
            simp only [getElem!_pos z.cells 0 hjz]
        · cases hv1
      · cases hv1
    | false =>
    rw [hbx,cond_false] at hv
    obtain ⟨h0,hv1⟩:=chk_some hv
    simp only [ile,Bool.and_eq_true,decide_eq_true_eq] at h0
    obtain ⟨⟨a0,a1⟩,a2⟩:=h0
    · have hbz := hX.u.bpos u
      have hcp:cp≤140737488355328:=by
        have:cp * 1≤cp * (X.E.by_ u:Int):=Int.mul_le_mul_of_nonneg_left (by omega) (by omega)
        omega
      have hrun:=run_make (P:=P) w ty (X.E.tid u) ie z hu hi hz kl kc ln cp a0 a1 (by rw [hby,Int.mul_comm]; omega) (by omega)
      rw [hsz] at hrun
      refine ⟨_,hv1,done_new (v := .slice (some ⟨w.heap.size,0,none⟩) ln.toNat cp.toNat) (c:=madeCells z.cells (cp.toNat * X.E.sz u)) (e:=X.E.tid u) ⟨w.heap.size,cp.toNat * X.E.sz u,X.E.sz u,ln.toNat⟩ (by simp [newIds,ho]) hd ?_ hlt (fun _=>rfl) (fun ρ' e1 e2 => ?_)
        (fun ρ' f1 f2 hns=>⟨rfl,by simp,by simp; exact Nat.mul_le_mul_right _ (by omega),fun _=>⟨Nat.le_refl _,hns,_,heap_new _ _,size_madeCells _ _,fun i x j c hix hjc => ?_⟩⟩)⟩
      · simp only [execOp,ho,hq,hq2,Sem.run_bind,hrun,Result.andThen_ok,Sem.run_pure]
      · exact Rel.ful d cp.toNat ⟨w.heap.size,cp.toNat * X.E.sz u,X.E.sz u,ln.toNat⟩ e1 (Nat.le_refl _) (by simp; omega)
      · have hil : i < ln.toNat := by have := (List.getElem?_eq_some_iff.1 hix).1; simpa using this
        have hxz:x=X.E.dflt u:=by
          rw [List.getElem?_replicate,if_pos hil] at hix
          exact (Option.some.inj hix).symm
        subst hxz
        have hjl:j < X.E.sz u:=by rw [← hX.u.len u]; exact (List.getElem?_eq_some_iff.1 hjc).1
        obtain ⟨v,hvv,hrv⟩:=hzr j c hjc
        obtain ⟨q1,q2⟩:=idx_split (i:=i) hjl
        have hlt':i * X.E.sz u+j < cp.toNat * X.E.sz u:=by
          have:(i+1) * X.E.sz u≤cp.toNat * X.E.sz u:=Nat.mul_le_mul_right _ (by omega)
          rw [Nat.add_mul,Nat.one_mul] at this
          omega
        refine ⟨v,?_,hrv _ _ _⟩
        rw [made_get hlt',hzs,q2]
        have hjz:j < z.cells.size:=by omega
        simp only [getElem!_pos z.cells j hjz]
        rw [← hvv,Array.getElem?_eq_getElem hjz]
  · cases hv
end
end Go.Proofs.Ytkeplmpcijigaaa
