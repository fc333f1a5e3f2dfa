/- Further operations of the abstract run, and blocks that are written and appended to, borne out by the model. Conditions: those of each theorem, none else. -/
import Derived.Test.YtfmamkmmohilgaaGreatDoorLF
import Derived.Great.BuildSlice
import Derived.Lib.UnsafeStr
namespace Go.Proofs.YtfmamkmmohilgaaGreatDoor
open IntKind
set_option linter.all false
open Go.RowKit
section
variable{U:Type}{El:U->Type}{P:Program}{X:Ctx U El}{S:Nat->Prop}{ρ:eJ}{w:World} [DecidableEq U] [tD]
variable{o:Oper}{a:Act}{t:eH U El}{h H:bI U El}{B:Bd}{d:Nat}{r:Fin U El}
theorem mJ(off:Nat)(cs cells:Array Value):(cs.zipIdx.foldl (λcs (x:Value×Nat)=>cs.setIfInBounds (off+x.2) x.1) cells)=((cs.toList.zipIdx 0).foldl (λcs (x:Value×Nat)=>cs.setIfInBounds (off+x.2) x.1) cells):=by rw[<-Array.foldl_toList,Array.toList_zipIdx]
theorem xJ{place:Nat->Option (Nat×Nat)}{Z:ah (AV U El)}: ∀(fs:ah (Nat×Nat×Bool)) (ps:ah (Nat×Operand)) (n acc:Nat) (cells:Array Value) (cs:ah (AV U El)),
 kG t Z n acc fs ps=some cs->(∀i f,fs[i]?=some f->place (n+i)=some (f.1,f.2.1))->acc+cs.length<=cells.size->
 (∀p∈ps,Rel X.E S ρ w (bm t p.2) (a.eval p.2))->(∀(j:Nat) c,acc<=j->Z[j]?=some c->∃v,cells[j]?=some v/\Rel X.E S ρ w c v)->
 ∃r,Instr.fill place cells (ps.map λp=>(p.1,a.eval p.2))=some r/\r.size=cells.size/\(∀k,k<acc->r[k]?=cells[k]?)/\
  ∀(j:Nat) c,cs[j]?=some c->∃v,r[acc+j]?=some v/\Rel X.E S ρ w c v:=by
 intro fs;induction fs with
 |nil=>
  intro ps n acc cells cs hl hp hc hr hZ;cases ps with
  |nil=>simp[kG]at hl;subst hl;exact⟨cells,rfl,rfl,λ_ _=>rfl,ae⟩
  |cons p ps=>simp[kG]at hl
 |cons f fs ih=>
  intro ps n acc cells cs hl hp hc hr hZ;obtain⟨off,sz,ag⟩:=f
  have skip:∀ps:ah (Nat×Operand),(∀p∈ps,Rel X.E S ρ w (bm t p.2) (a.eval p.2))->(bif Nat.beq off acc&&Nat.ble (acc+sz) Z.length then
   match kG t Z (n+1) (acc+sz) fs ps with
   |some r=>some ((Z.drop acc).take sz++r)
   |none=>none
   else none)=some cs->∃r,Instr.fill place cells (ps.map λp=>(p.1,a.eval p.2))=some r/\r.size=cells.size/\(∀k,k<acc->r[k]?=cells[k]?)/\
    ∀(j:Nat) c,cs[j]?=some c->∃v,r[acc+j]?=some v/\Rel X.E S ρ w c v:=by
   intro ps hr hl;cases hb:(Nat.beq off acc&&Nat.ble (acc+sz) Z.length)with
   |false=>rw[hb]at hl;cases hl
   |true=>
    rw[hb]at hl;simp only[cond]at hl;simp only[aj]at hb;obtain rfl:=al hb.1;have hle:=aV hb.2;split at hl
    ·rename_i rest Eh;cases hl;have hlen:((Z.drop off).take sz).length=sz:=by simp;omega
     rw[aF,hlen]at hc;obtain⟨r,hf,hsz,LH,pz⟩:=ih ps (n+1) (off+sz) cells rest Eh
      (λj f hf=>by have:=hp (j+1) f (by simpa using hf);rwa [show n+(j+1)=n+1+j by omega]at this) ab hr (λj c hj hc=>hZ j c ab hc)
     refine⟨r,hf,hsz,λk hk=>LH k ab,λj c hj=>?_⟩
     by_cases hlt:j<sz
     ·rw[a_ ab]at hj;rw[cd hlt,cg]at hj;obtain⟨v,hv,nP⟩:=hZ (off+j) c ab hj;exact⟨v,by rw[LH (off+j) ab];exact hv,nP⟩
     ·rw[br ab,hlen]at hj;obtain⟨v,hv,nP⟩:=pz _ c hj;rw[show off+sz+(j-sz)=off+j by omega]at hv;exact⟨v,hv,nP⟩
    ·cases hl
  cases ps with
  |nil=>
   simp only[kG]at hl;exact skip [] hr hl
  |cons p ps=>
   obtain⟨i,x⟩:=p;simp only[kG]at hl;cases xW:Nat.beq i n with
   |false=>rw[xW]at hl;exact skip _ hr hl
   |true=>
   cases hb:Nat.beq off acc with
   |false=>rw[xW,hb]at hl;cases hl
   |true=>
    rw[xW,hb]at hl;simp only[cond]at hl;obtain rfl:=al xW;obtain rfl:=al hb;split at hl
    ·rename_i ns rW;cases vj:Nat.beq ns.length sz with
     |false=>rw[vj]at hl;cases hl
     |true=>
      rw[vj]at hl;simp only[cond]at hl;obtain rfl:=al vj;split at hl
      ·rename_i rest Eh;cases hl;obtain⟨h2,h3⟩:=kh (hr (i,x) ae) rW;simp only at h2 h3;obtain⟨g1,g2⟩:=Great.foldl_set off (a.eval x).cells.toList 0 cells;simp only[aF]at hc;obtain⟨r,hf,hsz,LH,pz⟩:=ih ps (i+1) (off+ns.length) ((a.eval x).cells.zipIdx.foldl (λcs (x:Value×Nat)=>cs.setIfInBounds (off+x.2) x.1) cells) rest Eh
        (λj f hf=>by have:=hp (j+1) f (by simpa using hf);rwa [show i+(j+1)=i+1+j by omega]at this) (by rw[mJ,g1];omega) (λp Oe=>hr p (by simp[Oe]))
        (λj c hj hc=>by
         obtain⟨v,hv,nP⟩:=hZ j c ab hc;exact⟨v,by rw[mJ,g2 j,if_neg (by simp[h2];omega)];exact hv,nP⟩)
       have Lr:r.size=cells.size:=by rw[hsz,mJ,g1]
       refine⟨r,?_,Lr,λk hk=>?_,λj c hj=>?_⟩
       ·simp only[dx]
        unfold Instr.fill;have Zl:place i=some (off,ns.length):=by have:=hp 0 _ rfl;simpa using this
        rw[Zl]
        simp only[h2]
        rw[if_neg (by simp;omega)]
        exact hf
       ·rw[LH k ab,mJ,g2 k,if_neg ab]
       ·by_cases hlt:j<ns.length
        ·have mQ:j<(a.eval x).cells.size:=by rw[h2];exact hlt
         rw[a_ hlt]at hj;refine⟨_,?_,h3 j c _ hj (aC mQ)⟩
         rw[LH (off+j) ab,mJ,g2,if_pos ⟨ab,by simp[h2];omega,ab⟩]
         simp[mQ]
        ·rw[br ab]at hj;obtain⟨v,hv,nP⟩:=pz _ c hj;rw[show off+ns.length+(j-ns.length)=off+j by omega]at hv;exact⟨v,hv,nP⟩
      ·cases hl
    ·cases hl
theorem L4{place:Nat->Option (Nat×Nat)}{fs:ah (Nat×Nat×Bool)}(hp: ∀i f,fs[i]?=some f->place i=some (f.1,f.2.1)): ∀(ps:ah (Nat×Operand)) (cells:Array Value) (cs out:ah (AV U El)),
 zG t fs cs ps=some out->cs.length<=cells.size->(∀p∈ps,Rel X.E S ρ w (bm t p.2) (a.eval p.2))->(∀(j:Nat) c,cs[j]?=some c->∃v,cells[j]?=some v/\Rel X.E S ρ w c v)->
 ∃r,Instr.fill place cells (ps.map λp=>(p.1,a.eval p.2))=some r/\r.size=cells.size/\out.length=cs.length/\∀(j:Nat) c,out[j]?=some c->∃v,r[j]?=some v/\Rel X.E S ρ w c v:=by
 intro ps;induction ps with
 |nil=>intro cells cs out hl hc hr hZ;simp only[zG,bX]at hl;subst hl;exact⟨cells,rfl,rfl,rfl,hZ⟩
 |cons p ps ih=>
  intro cells cs out hl hc hr hZ;obtain⟨i,x⟩:=p;simp only[zG]at hl;split at hl
  ·rename_i off sz ag hf;split at hl
   ·rename_i ns rW;cases hb:(Nat.beq ns.length sz&&Nat.ble (off+sz) cs.length)with
    |false=>rw[hb]at hl;cases hl
    |true=>
     rw[hb,cond_true]at hl;simp only[aj]at hb;obtain rfl:=al hb.1;have hle:=aV hb.2;obtain⟨h2,h3⟩:=kh (hr (i,x) ae) rW;simp only at h2 h3;obtain⟨g1,g2⟩:=Great.foldl_set off (a.eval x).cells.toList 0 cells;have hlen:(cs.take off++(ns++cs.drop (off+ns.length))).length=cs.length:=by simp;omega
     obtain⟨r,H_,hsz,RI,pz⟩:=ih ((a.eval x).cells.zipIdx.foldl (λcs (x:Value×Nat)=>cs.setIfInBounds (off+x.2) x.1) cells) _ out hl (by rw[hlen,mJ,g1];exact hc) (λp Oe=>hr p (by simp[Oe])) (λj c hj=>by
      rw[mJ,g2 j]
      by_cases h0:j<off
      ·rw[a_ (by simp;omega),cd h0]at hj;obtain⟨v,hv,nP⟩:=hZ j c hj;exact⟨v,by rw[if_neg ab];exact hv,nP⟩
      ·rw[br (by simp;omega)]at hj;have _1:(cs.take off).length=off:=by simp;omega
       rw[_1]at hj;by_cases h1:j-off<ns.length
       ·rw[a_ h1]at hj;have mQ:j-off<(a.eval x).cells.size:=by rw[h2];exact h1
        refine⟨_,?_,h3 _ c _ hj (aC mQ)⟩
        rw[if_pos ⟨ab,by simp[h2];omega,ab⟩]
        simp[mQ]
       ·rw[br ab,cg]at hj;obtain⟨v,hv,nP⟩:=hZ j c (by rw[show off+ns.length+(j-off-ns.length)=j by omega]at hj;exact hj)
        exact⟨v,by rw[if_neg (by simp[h2];omega)];exact hv,nP⟩)
     refine⟨r,?_,by rw[hsz,mJ,g1],by rw[RI,hlen],pz⟩
     simp only[dx]
     unfold Instr.fill;rw[hp i _ hf]
     simp only[h2]
     rw[if_neg (by simp;omega)]
     exact H_
   ·cases hl
  ·cases hl
theorem oh(hX:bp P X){ty:TypeId}{i:TypeInfo}{z:Value}(hi:P.info? ty=some i)(hz:i.zero=some z)(j:Nat)(c:AV U El)(hj:(zeroCells X.zeros ty:ah (AV U El))[j]?=some c):
 ∃v,z.cells[j]?=some v/\Rel X.E S ρ w c v:=by
 unfold zeroCells at hj;split at hj
 ·rename_i z' Ww;obtain⟨i',ku,TH⟩:=hX.z _ _ Ww;rw[hi]at ku;cases ku;rw[hz]at TH;cases TH;have hl:j<z.cells.toList.length:=by rw[<-rL (U:=U) (El:=El)];exact(ak.1 hj).1
  exact⟨_,by rw[<-bO];exact az hl,rM _ j c _ hj (az hl)⟩
 ·simp at hj
theorem K3{ty:TypeId}{ps:Array (Nat×Operand)}{k:Out U El->Option (Fin U El)}(hX:bp P X)(ho:o.op=.build ty ps)
 (hv:evalOp X o t h d k=some r) (hT:mC X.E S ρ w o t a) (hlt:∀b,S b->b<w.heap.size):∃out,k out=some r/\fG P X.E S ρ w o a d out:=by
 have vW:∀p∈ps.toList,Rel X.E S ρ w (bm t p.2) (a.eval p.2):=λp hp=>hT.get (by simp[ho,Op.operands];exact⟨p.1,by simpa using hp⟩)
 have LF:(ps.map λ(i,x)=>(i,a.eval x)).toList=ps.toList.map λp=>(p.1,a.eval p.2):=ae
 simp only[evalOp,ho]at hv;split at hv
 ·rename_i fs sz gM;split at hv
  ·rename_i cs pz;obtain⟨h0,gq⟩:=aQ hv;obtain⟨fields,hu,⟨i,hi,hsz,z,hz,yq⟩,_,_,hfs,hft⟩:=hX.td _ _ gM;have hl:cs.length=sz:=al h0;have Zl:fields.mapM (λf=>(do pure (f.offset,<-sizeOf f.type):Sem (Nat×Nat)))=fields.mapM (λf=>(do pure (f.offset,<-sizeOf f.type):Sem (Nat×Nat))):=rfl
   have Od:∀(l:ah Field),(∀f∈l,∃i,P.info? f.type=some i)->(l.mapM (λf=>(do pure (f.offset,<-sizeOf f.type):Sem (Nat×Nat)))).run P w=.ok (l.map λf=>(f.offset,MQ P f.type)) w:=by
    intro l dq;induction l with
    |nil=>simp
    |cons f l ih=>
     obtain⟨i',ku⟩:=dq f ae
     simp only[List.mapM_cons,Sem.run_bind,kT ku,Result.andThen_ok,Sem.run_pure,ih (λg hg=>dq g (by simp[hg])),dx,Kv ku]
   have η:=Od fields.toList (λf hf=>by obtain⟨_,i',ku,_⟩:=hft f hf;exact⟨i',ku⟩)
   have WZ:(fields.mapM (λf=>(do pure (f.offset,<-sizeOf f.type):Sem (Nat×Nat)))).run P w=.ok (fields.toList.map λf=>(f.offset,MQ P f.type)).toArray w:=by
    rw[Array.mapM_eq_mapM_toList]
    simp only[Sem.run_map,η,Result.andThen_ok]
   have TT:∀(j:Nat) (f:Nat×Nat×Bool),fs[j]?=some f->(fields.toList.map λf=>(f.offset,MQ P f.type)).toArray[j]?=some (f.1,f.2.1):=λj f hj=>by
    rw[hfs]at hj;simp only[bo,aJ]at hj;obtain⟨fl,H_,rfl⟩:=hj;have Xv:fields[j]?=some fl:=by simpa using H_
    simp[Xv]
   obtain⟨rr,hf,Lw,CI⟩:∃r,Instr.fill (λj=>(fields.toList.map λf=>(f.offset,MQ P f.type)).toArray[j]?) z.cells (ps.toList.map λp=>(p.1,a.eval p.2))=some r/\r.size=z.cells.size/\∀(j:Nat) c,cs[j]?=some c->∃v,r[j]?=some v/\Rel X.E S ρ w c v:=by
    unfold Gg at pz;split at pz
    ·rename_i yc XC;cases pz;obtain⟨rr,hf,Lw,_,CI⟩:=xJ (X:=X) (S:=S) (ρ:=ρ) (w:=w) (a:=a) (place:=λj=>(fields.toList.map λf=>(f.offset,MQ P f.type)).toArray[j]?) fs ps.toList 0 0 z.cells cs XC (λj f hj=>by rw[bZ];exact TT j f hj) ab vW (λj c _ hj=>oh hX hi hz j c hj)
     exact⟨rr,hf,Lw,λj c hj=>by simpa using CI j c hj⟩
    ·have Pm:(zeroCells X.zeros ty:ah (AV U El)).length<=z.cells.size:=by
      cases hn:(zeroCells X.zeros ty:ah (AV U El)).length with
      |zero=>omega
      |succ n=>
       obtain⟨v,hv,_⟩:=oh (S:=S) (ρ:=ρ) (w:=w) hX hi hz n _ (az ab)
       exact(aX.1 hv).1
     obtain⟨rr,hf,Lw,_,CI⟩:=L4 (X:=X) (S:=S) (ρ:=ρ) (w:=w) (a:=a) (place:=λj=>(fields.toList.map λf=>(f.offset,MQ P f.type)).toArray[j]?) TT ps.toList z.cells _ cs pz Pm vW (λj c hj=>oh hX hi hz j c hj)
     exact⟨rr,hf,Lw,CI⟩
   refine⟨_,gq,bR (v:=.agg rr) ?_ (.agg _ _ ab λj c v hj Jm=>?_) hlt⟩
   ·simp only[execOp,ho,Instr.build,Sem.run_bind,zeroValue,typeInfo,run_program,hi,hz,Result.andThen_ok,Sem.run_pure,run_underlying hu,WZ,LF,hf]
   ·obtain⟨v',eC,nP⟩:=CI j c hj;rw[Jm]at eC;cases eC;exact nP
  ·cases hv
 ·rename_i n es ea sz gM;split at hv
  ·rename_i cs pz;obtain⟨h0,gq⟩:=aQ hv;obtain⟨e,hu,⟨i,hi,hsz,z,hz,yq⟩,⟨ie,Ψ,Ia⟩,_⟩:=hX.td _ _ gM;have hl:cs.length=sz:=al h0;obtain⟨rr,hf,Lw,_,CI⟩:=xJ (X:=X) (S:=S) (ρ:=ρ) (w:=w) (a:=a) (place:=λj=>some (j*es,es)) _ ps.toList 0 0 z.cells cs pz
    (λj f hj=>by
     simp only[bo,aJ]at hj;obtain⟨q,hq,rfl⟩:=hj;have:q=j:=by
      have:=(ak.1 hq)
      obtain⟨_,e⟩:=this;simpa using e.symm
     simp[this]) ab vW (λj c _ hj=>oh hX hi hz j c hj)
   refine⟨_,gq,bR (v:=.agg rr) ?_ (.agg _ _ ab λj c v hj Jm=>?_) hlt⟩
   ·simp only[execOp,ho,Instr.build,Sem.run_bind,zeroValue,typeInfo,run_program,hi,hz,Result.andThen_ok,Sem.run_pure,run_underlying hu,kT Ψ,Ia,LF,hf]
   ·obtain⟨v',eC,nP⟩:=CI j c hj;rw[bZ,Jm]at eC;cases eC;exact nP
  ·cases hv
 ·cases hv
theorem D8{u:U}(hX:bp P X): ∀(ps:ah (Nat×Operand)) (n:Nat) (xs:ah (El u)),tP X.E u t n ps=some xs->(∀p∈ps,Rel X.E S ρ w (bm t p.2) (a.eval p.2))->
 (ps.map λp=>(p.1,a.eval p.2))=(((ps.map λp=>a.eval p.2).zipIdx n).map λx=>(x.2,x.1))/\xs.length=ps.length/\(∀p∈ps,(a.eval p.2).cells.size=X.E.sz u)/\
 ∀(i:Nat) x (j:Nat) c p,xs[i]?=some x->(X.E.enc u x)[j]?=some c->ps[i]?=some p->∃v,(a.eval p.2).cells[j]?=some v/\Rel X.E S ρ w c v:=by
 intro ps;induction ps with
 |nil=>intro n xs hl hr;simp[tP]at hl;subst hl;simp
 |cons p ps ih=>
  intro n xs hl hr;obtain⟨i,x⟩:=p;simp only[tP]at hl;cases hb:Nat.beq i n with
  |false=>rw[hb]at hl;cases hl
  |true=>
   rw[hb]at hl;simp only[cond]at hl;obtain rfl:=al hb;split at hl
   ·rename_i cs pz;split at hl
    ·rename_i y hy;split at hl
     ·rename_i ys xF;cases hl;obtain⟨e1,e2,e3,e4⟩:=ih (i+1) ys xF (λp hp=>hr p (by simp[hp]))
      obtain⟨h2,h3⟩:=kh (hr (i,x) ae) pz;simp only at h2 h3;obtain⟨d1,d2⟩:=hX.u.dec _ _ _ hy;refine⟨by simp[e1],by simp[e2],λp hp=>?_,λk z j c p hk hj hp=>?_⟩
      ·simp at hp;rcases hp with rfl|hp
       ·simp[h2,d1]
       ·exact e3 p hp
      ·cases k with
       |zero=>
        simp at hk hp;subst hk hp;obtain⟨c',wE,lS⟩:=d2 j c hj;have mQ:j<(a.eval x).cells.size:=by rw[h2];exact(ak.1 wE).1
        have nP:=h3 j c' _ wE (aC mQ)
        refine⟨_,aC mQ,?_⟩
        rcases lS with rfl|⟨rfl,u',rfl⟩
        ·exact nP
        ·generalize hq:(a.eval x).cells[j]=q at nP;cases nP;exact .jy u' _ _
       |succ k=>exact e4 k z j c p (by simpa using hk) hj (by simpa using hp)
     ·cases hl
    ·cases hl
   ·cases hl
theorem BW{i j s:Nat}(h:j<s):(i*s+j)/s=i/\(i*s+j)%s=j:=by
 constructor
 ·rw[je,Nat.mul_add_div ab,Nat.div_eq_of_lt h,gg]
 ·rw[je,Nat.mul_add_mod,lH h]
theorem Gf: ∀(ps:ah (Nat×Operand)) (n:Nat) (cs:ah (AV U El)),w8 t n ps=some cs->(∀p∈ps,Rel X.E S ρ w (bm t p.2) (a.eval p.2))->
 (ps.map λp=>(p.1,a.eval p.2))=(((ps.map λp=>a.eval p.2).zipIdx n).map λx=>(x.2,x.1))/\cs.length=ps.length/\(∀p∈ps,(a.eval p.2).cells.size=1)/\
 ∀(i:Nat) c p,cs[i]?=some c->ps[i]?=some p->∃v,(a.eval p.2).cells[0]?=some v/\Rel X.E S ρ w c v:=by
 intro ps;induction ps with
 |nil=>intro n cs hl hr;simp[w8]at hl;subst hl;simp
 |cons p ps ih=>
  intro n cs hl hr;obtain⟨i,x⟩:=p;simp only[w8]at hl;cases hb:Nat.beq i n with
  |false=>rw[hb]at hl;cases hl
  |true=>
   rw[hb,cond_true]at hl;obtain rfl:=al hb;split at hl
   ·rename_i c hc;split at hl
    ·rename_i ys xF;cases hl;obtain⟨e1,e2,e3,e4⟩:=ih (i+1) ys xF (λp hp=>hr p (by simp[hp]))
     obtain⟨h2,h3⟩:=kh (hr (i,x) ae) hc;simp only at h2 h3;have h2:(a.eval x).cells.size=1:=by simpa using h2
     refine⟨by simp[e1],by simp[e2],λp hp=>?_,λk c' p hk hp=>?_⟩
     ·simp at hp;rcases hp with rfl|hp
      ·exact h2
      ·exact e3 p hp
     ·cases k with
      |zero=>
       simp at hk hp;subst hk hp;have mQ:0<(a.eval x).cells.size:=ab
       exact⟨_,aC mQ,h3 0 c _ rfl (aC mQ)⟩
      |succ k=>exact e4 k c' p (by simpa using hk) (by simpa using hp)
    ·cases hl
   ·cases hl
theorem Dj{z:Int}(h:Ni z=true):(((jG z).toNat:Nat):Int)=z:=by
 simp only[Ni,bg,bz,aj,decide_eq_true_eq]at h;unfold jG;have:z.toNat<256:=ab
 rw[UInt8.toNat_ofNat',lH (by simpa using this)]
 omega
theorem D_: ∀(ps:ah (Nat×Operand)) (n:Nat) (zs:ah Int),rD t n ps=some zs->(∀p∈ps,Rel X.E S ρ w (bm t p.2) (a.eval p.2))->
 (ps.map λp=>(p.1,a.eval p.2))=(((ps.map λp=>a.eval p.2).zipIdx n).map λx=>(x.2,x.1))/\zs.length=ps.length/\∀(i:Nat) p,ps[i]?=some p->∃z,zs[i]?=some z/\a.eval p.2=.int .u8 z:=by
 intro ps;induction ps with
 |nil=>intro n zs hl hr;simp[rD]at hl;subst hl;simp
 |cons p ps ih=>
  intro n zs hl hr;obtain⟨i,x⟩:=p;simp only[rD]at hl;cases hb:Nat.beq i n with
  |false=>rw[hb]at hl;cases hl
  |true=>
   rw[hb]at hl;simp only[cond]at hl;obtain rfl:=al hb;split at hl
   ·rename_i z hz;split at hl
    ·rename_i ys xF;cases hl;obtain⟨e1,e2,e3⟩:=ih (i+1) ys xF (λp hp=>hr p (by simp[hp]))
     have h1:=hr (i,x) ae
     simp only[hz]at h1;refine⟨by simp[e1],by simp[e2],λk p hp=>?_⟩
     cases k with
     |zero=>
      simp only[mF,bX]at hp;subst hp;refine⟨z,rfl,?_⟩
      generalize a.eval x=q at h1;cases h1;rfl
     |succ k=>exact e3 k p (by simpa using hp)
    ·cases hl
   ·cases hl
theorem D9{u:U}(hX:bp P X)(hb:X.E.Av u=true)(ps:ah (Nat×Operand))(zs:ah Int)(hl:rD t 0 ps=some zs)(hz:zs.all Ni=true)(hr:∀p∈ps,Rel X.E S ρ w (bm t p.2) (a.eval p.2)):
 (ps.map λp=>(p.1,a.eval p.2))=(((ps.map λp=>a.eval p.2).zipIdx 0).map λx=>(x.2,x.1))/\(X.E.Pc u (zs.map jG)).length=ps.length/\(∀p∈ps,(a.eval p.2).cells.size=X.E.sz u)/\
 ∀(i:Nat) x (j:Nat) c p,(X.E.Pc u (zs.map jG))[i]?=some x->(X.E.enc u x)[j]?=some c->ps[i]?=some p->∃v,(a.eval p.2).cells[j]?=some v/\Rel X.E S ρ w c v:=by
 obtain⟨e1,e2,e3⟩:=D_ ps 0 zs hl hr;have hB:=(hX.u.RW u hb).1;refine⟨e1,by rw[hB.len];simp[e2],λp hp=>?_,λi x j c p hx hc hp=>?_⟩
 ·obtain⟨i,hi⟩:=jg hp;obtain⟨z,_,h⟩:=e3 i p hi;rw[h,hB.sz]
  rfl
 ·obtain⟨z,h1,h2⟩:=e3 i p hp;have hi:i<zs.length:=(ak.1 h1).1;obtain⟨y,hy,he⟩:=hB.enc (zs.map jG) i (by simpa using hi)
  rw[hx]at hy;cases hy;rw[he]at hc;have _N:=aP.1 hz z (aD h1)
  have hg:(zs.map jG).getD i 0=jG z:=by simp[List.getD,h1]
  rw[hg]at hc;cases j with
  |zero=>
   simp only[mF,bX]at hc;subst hc;refine⟨.int .u8 z,by rw[h2];rfl,?_⟩
   rw[Dj _N]
   exact .int _ _
  |succ j=>simp at hc
theorem Bh{ty:TypeId}{n:Nat}{ps:Array (Nat×Operand)}{k:Out U El->Option (Fin U El)}(hX:bp P X)(ho:o.op=.buildSlice ty n ps)
 (hv:evalOp X o t h d k=some r) (hT:mC X.E S ρ w o t a) (hlt:∀b,S b->b<w.heap.size) (hd:ρ d=none):∃out,k out=some r/\fG P X.E S ρ w o a d out:=by
 have vW:∀p∈ps.toList,Rel X.E S ρ w (bm t p.2) (a.eval p.2):=λp hp=>hT.get (by simp[ho,Op.operands];exact⟨p.1,by simpa using hp⟩)
 have LF:(ps.map λ(i,x)=>(i,a.eval x)).toList=ps.toList.map λp=>(p.1,a.eval p.2):=ae
 simp only[evalOp,ho]at hv;split at hv
 ·rename_i u gM;cases RN:Nat.blt 0 (X.E.xn ty)with
  |true=>
   rw[RN,cond_true]at hv;obtain⟨h0,gq⟩:=aQ hv;clear hv;simp only[aj]at h0;obtain⟨a0,a1,a2,a3⟩:=h0;have hn:n=ps.size:=al a0;have a1:=al a1;have a2:=aV a2;have a3:X.E.sz u=1:=al a3;have o7:0<n:=by rw[a1];exact aV RN
   split at gq
   ·rename_i cs pz;have hu:P.underlying ty=some (.slice (X.E.tid u)):=hX.td _ _ gM;obtain⟨ie,z,hi,hsz,AQ,hz,yq,_⟩:=hX.u.info u;obtain⟨e1,e2,e3,e4⟩:=Gf (S:=S) (ρ:=ρ) (w:=w) (a:=a) ps.toList 0 cs pz vW;obtain⟨rr,hf,Lw,CI⟩:=Great.fill_dense (s:=1) ab (ps.toList.map λp=>a.eval p.2) 0 ((Array.range (n*1)).map (z.cells[· % z.cells.size]!)) (by intro v hv;obtain⟨p,hp,rfl⟩:=eT.1 hv;exact e3 p hp) (by simp[hn])
    have de:=run_buildSlice (P:=P) w ty (X.E.tid u) n (ps.map λ(i,x)=>(i,a.eval x)) rr ie z hu hi hz (by rw[hsz,a3];omega) (by rw[hsz,a3];omega) (by rw[hsz,a3,LF,e1];exact hf)
    have QK:rr.size=n:=by rw[Lw];simp
    have Qz:cs.length=n:=by rw[e2,hn];simp
    refine⟨_,gq,pE (v:=.slice (some ⟨w.heap.size,0,none⟩) n n) (c:=rr) (e:=X.E.tid u) ⟨w.heap.size,n,1,n⟩ (by simp[dP,ho]) hd ?_ hlt (λ_=>rfl) (λρ' e1 e2=>?_)
     (λρ' f1 f2 rW=>⟨.inl rfl,by simp[Qz],λ_=>⟨aY _,rW,_,_,lD _ _,by rw[QK],λj c uf=>?_⟩⟩)⟩
    ·simp only[execOp,ho,Sem.run_bind,de,Result.andThen_ok,Sem.run_pure]
    ·exact Rel.own d 0 n n ⟨w.heap.size,n,1,n⟩ e1 ae (aY _) ae
    ·have mQ:j<n:=by rw[<-Qz];exact(ak.1 uf).1
     have vV:j<ps.toList.length:=by simp;omega
     obtain⟨v,Jm,Ed⟩:=e4 j c _ uf (az vV)
     refine⟨v,?_,Ed.mono (λ_ h=>h) (λb hb=>heap_alloc_old w _ b (hlt b hb)) f2⟩
     have xb:=CI j;rw[if_pos (by simp[hn]at mQ⊢;exact mQ),hJ,Nat.div_one,Nat.mod_one]at xb;rw[xb]
     simp only[bo,az vV,eK,iK]
     exact Jm
   ·cases gq
  |false=>
  rw[RN,cond_false]at hv;obtain⟨h0,gq⟩:=aQ hv;obtain⟨h1,qv⟩:=aQ gq;have main:∀xs:ah (El u),((ps.toList.map λp=>(p.1,a.eval p.2))=(((ps.toList.map λp=>a.eval p.2).zipIdx 0).map λx=>(x.2,x.1))/\xs.length=ps.toList.length/\(∀p∈ps.toList,(a.eval p.2).cells.size=X.E.sz u)/\
     ∀(i:Nat) x (j:Nat) c p,xs[i]?=some x->(X.E.enc u x)[j]?=some c->ps.toList[i]?=some p->∃v,(a.eval p.2).cells[j]?=some v/\Rel X.E S ρ w c v)->k ⟨.cf d,[(d,.rows u xs)]⟩=some r->∃out,k out=some r/\fG P X.E S ρ w o a d out:=by
   intro xs ⟨e1,e2,e3,e4⟩ qv;have hu:P.underlying ty=some (.slice (X.E.tid u)):=hX.td _ _ gM;obtain⟨ie,z,hi,hsz,AQ,hz,yq,_⟩:=hX.u.info u;have hn:n=ps.size:=al h0;have hle:n*X.E.sz u<=16777216:=aV h1;have hp:=hX.u.pos u;by_cases hn0:n=0
   ·have ζ:ps= #[]:=by apply jP;omega
    subst ζ;subst hn0;have hx0:xs=[]:=bq (by simpa using e2)
    subst hx0;refine⟨_,qv,pE (v:=.slice (some ⟨w.heap.size,0,none⟩) 0 0) (c:=#[]) (e:=X.E.tid u) ⟨w.heap.size,0,X.E.sz u,0⟩ (by simp[dP,ho]) hd ?_ hlt (λh=>absurd rfl h) (λρ' e1 e2=>?_) (λρ' e1 e2 rW=>⟨rfl,rfl,ae,λh=>absurd rfl h⟩)⟩
    ·simp[execOp,ho,Instr.buildSlice,run_underlying hu,kT hi,Instr.fill,newRow,Array.range_zero']
    ·exact Rel.cf d 0 ⟨w.heap.size,0,X.E.sz u,0⟩ e1 ae (aY _)
   ·obtain⟨rr,hf,Lw,CI⟩:=Great.fill_dense hp (ps.toList.map λp=>a.eval p.2) 0 ((Array.range (n*X.E.sz u)).map (z.cells[· % z.cells.size]!)) (by intro v hv;obtain⟨p,hp,rfl⟩:=eT.1 hv;exact e3 p hp) (by simp[hn])
    have de:=run_buildSlice (P:=P) w ty (X.E.tid u) n (ps.map λ(i,x)=>(i,a.eval x)) rr ie z hu hi hz (by rw[hsz];omega) (by rw[hsz];have:0<n*X.E.sz u:=fP ab hp;omega) (by rw[hsz,LF,e1];exact hf)
    have QK:rr.size=n*X.E.sz u:=by rw[Lw];simp
    have Qz:xs.length=n:=by rw[e2,hn];simp
    refine⟨_,qv,pE (v:=.slice (some ⟨w.heap.size,0,none⟩) n n) (c:=rr) (e:=X.E.tid u) ⟨w.heap.size,n*X.E.sz u,X.E.sz u,n⟩ (by simp[dP,ho]) hd ?_ hlt (λ_=>rfl) (λρ' e1 e2=>?_) (λρ' f1 f2 rW=>⟨rfl,Qz.symm,by rw[Qz];exact aY _,λ_=>⟨aY _,rW,rr,lD _ _,QK,λi x j c hix uf=>?_⟩⟩)⟩
    ·simp only[execOp,ho,Sem.run_bind,de,Result.andThen_ok,Sem.run_pure]
    ·exact Rel.cf d n ⟨w.heap.size,n*X.E.sz u,X.E.sz u,n⟩ e1 (aY _) (aY _)
    ·have rX:i<n:=by rw[<-Qz];exact(ak.1 hix).1
     have mQ:j<X.E.sz u:=by rw[<-hX.u.len u x];exact(ak.1 uf).1
     have vV:i<ps.toList.length:=by simp;omega
     obtain⟨v,Jm,Ed⟩:=e4 i x j c _ hix uf (az vV)
     obtain⟨q1,q2⟩:=BW (i:=i) mQ;have Ek:i*X.E.sz u+j<n*X.E.sz u:=by
      have:(i+1)*X.E.sz u<=n*X.E.sz u:=bu _ rX;rw[cY,hU]at this;omega
     refine⟨v,?_,Ed.mono (λ_ h=>h) (λb hb=>heap_alloc_old w _ b (hlt b hb)) f2⟩
     have xb:=CI (i*X.E.sz u+j)
     rw[if_pos (by simp[hn]at Ek⊢;exact Ek),q1,q2,hJ]at xb;rw[xb]
     simp only[bo,az vV,eK,iK]
     exact Jm
  cases XG:X.E.Av u with
  |true=>
   rw[XG,cond_true]at qv;split at qv
   ·rename_i zs yq;obtain⟨hz,Ze⟩:=aQ qv;exact main _ (D9 hX XG ps.toList zs yq hz vW) Ze
   ·cases qv
  |false=>
   rw[XG,cond_false]at qv;split at qv
   ·rename_i xs wC;exact main xs (D8 hX ps.toList 0 xs wC vW) qv
   ·cases qv
 ·cases hv
theorem zF{z:Array Value}{n k:Nat}(hk:k<n):(madeCells z n)[k]?=some (z[k%z.size]!):=by simp[madeCells,hk]
theorem Cp{ty:TypeId}{n c:Operand}{k:Out U El->Option (Fin U El)}(hX:bp P X)(ho:o.op=.makeSlice ty n c)
 (hv:evalOp X o t h d k=some r) (hT:mC X.E S ρ w o t a) (hlt:∀b,S b->b<w.heap.size) (hd:ρ d=none):∃out,k out=some r/\fG P X.E S ρ w o a d out:=by
 have h1:=hT.get (x:=n) (by simp[ho,Op.operands])
 have h2:=hT.get (x:=c) (by simp[ho,Op.operands])
 simp only[evalOp,ho]at hv;split at hv
 ·rename_i u kl ln kc cp gM hn hc;rw[hn]at h1;rw[hc]at h2;generalize hq:a.eval n=q at h1;generalize Jr:a.eval c=q2 at h2;cases h1;cases h2;have hu:P.underlying ty=some (.slice (X.E.tid u)):=hX.td _ _ gM;obtain⟨ie,z,hi,hsz,AQ,hz,yq,N'⟩:=hX.u.info u;have hp:=hX.u.pos u;cases RN:Nat.blt 0 (X.E.xn ty)with
  |true=>
   rw[RN,cond_true]at hv;obtain⟨h0,gq⟩:=aQ hv;clear hv;generalize X.E.xn ty=m at*;simp only[aj,beq_iff_eq]at h0;obtain⟨⟨⟨rfl,rfl⟩,a2⟩,a3⟩:=h0;have a2:=aV a2;have a3:X.E.sz u=1:=al a3;split at gq
   ·rename_i z' Ww;obtain⟨i',ku,TH⟩:=hX.z _ _ Ww;rw[hi]at ku;cases ku;rw[hz]at TH;cases TH;split at gq
    ·rename_i cc VB;obtain⟨pz,Uq⟩:=kh (Rel.const (E:=X.E) (S:=S) (ρ:=ρ) (w:=w) z) VB;have de:=run_make (P:=P) w ty (X.E.tid u) ie z hu hi hz kl kc (Int.ofNat m) (Int.ofNat m) (dy m) (j_ _) (by rw[AQ,Int.mul_comm];show(m:Int)*(X.E.AR u:Int)<=_;omega) (by have:m*1<=m*X.E.AR u:=Nat.mul_le_mul_left _ (hX.u.Rn u);show(m:Int)<=_;omega)
     rw[hsz,a3]at de;refine⟨_,gq,pE (v:=.slice (some ⟨w.heap.size,0,none⟩) m m) (c:=madeCells z.cells m) (e:=X.E.tid u) ⟨w.heap.size,m,1,m⟩ (by simp[dP,ho]) hd ?_ hlt (λ_=>rfl) (λρ' e1 e2=>?_)
      (λρ' f1 f2 rW=>⟨.inl rfl,ae,λ_=>⟨aY _,rW,_,_,lD _ _,size_madeCells _ _,λj c uf=>?_⟩⟩)⟩
     ·simp only[execOp,ho,hq,Jr,Sem.run_bind]
      rw[show(Int.ofNat m).toNat=m from rfl,mD]at de;simp only[de,Result.andThen_ok,Sem.run_pure]
     ·
      exact Rel.own d 0 m m ⟨w.heap.size,m,1,m⟩ e1 ae (aY _) ae
     ·have mQ:j<m:=by have:=(ak.1 uf).1;simpa using this
      rw[mE,if_pos mQ]at uf;cases uf;have Wv:z.cells.size=1:=by rw[yq,a3]
      have Ub:0<z.cells.size:=ab
      refine⟨z.cells[0],?_,(Uq 0 cc _ rfl (aC Ub)).mono (λ_ h=>h) (λb hb=>heap_alloc_old w _ b (hlt b hb)) f2⟩
      rw[zF mQ,Wv,Nat.mod_one]
      simp only[getElem!_pos z.cells 0 Ub]
    ·cases gq
   ·cases gq
  |false=>
  rw[RN,cond_false]at hv;obtain⟨h0,gq⟩:=aQ hv;simp only[bg,aj,decide_eq_true_eq]at h0;obtain⟨⟨a0,a1⟩,a2⟩:=h0
  ·have hbz:=hX.u.Rn u;have hcp:cp<=140737488355328:=by
    have:cp*1<=cp*(X.E.AR u:Int):=Int.mul_le_mul_of_nonneg_left ab ab
    omega
   have de:=run_make (P:=P) w ty (X.E.tid u) ie z hu hi hz kl kc ln cp a0 a1 (by rw[AQ,Int.mul_comm];omega) ab
   rw[hsz]at de;refine⟨_,gq,pE (v:=.slice (some ⟨w.heap.size,0,none⟩) ln.toNat cp.toNat) (c:=madeCells z.cells (cp.toNat*X.E.sz u)) (e:=X.E.tid u) ⟨w.heap.size,cp.toNat*X.E.sz u,X.E.sz u,ln.toNat⟩ (by simp[dP,ho]) hd ?_ hlt (λ_=>rfl) (λρ' e1 e2=>?_)
    (λρ' f1 f2 rW=>⟨rfl,ae,by simp;exact bu _ ab,λ_=>⟨aY _,rW,_,lD _ _,size_madeCells _ _,λi x j c hix uf=>?_⟩⟩)⟩
   ·simp only[execOp,ho,hq,Jr,Sem.run_bind,de,Result.andThen_ok,Sem.run_pure]
   ·exact Rel.cf d cp.toNat ⟨w.heap.size,cp.toNat*X.E.sz u,X.E.sz u,ln.toNat⟩ e1 (aY _) (by simp;omega)
   ·have rX:i<ln.toNat:=by have:=(ak.1 hix).1;simpa using this
    have _R:x=X.E.iL u:=by
     rw[mE,if_pos rX]at hix;exact(ez hix).symm
    subst _R;have mQ:j<X.E.sz u:=by rw[<-hX.u.len u];exact(ak.1 uf).1
    obtain⟨v,Jm,Ed⟩:=N' j c uf;obtain⟨q1,q2⟩:=BW (i:=i) mQ;have Ek:i*X.E.sz u+j<cp.toNat*X.E.sz u:=by
     have:(i+1)*X.E.sz u<=cp.toNat*X.E.sz u:=bu _ ab
     rw[cY,hU]at this;omega
    refine⟨v,?_,Ed _ _ _⟩
    rw[zF Ek,yq,q2]
    have Ub:j<z.cells.size:=ab
    simp only[getElem!_pos z.cells j Ub]
    rw[<-Jm,aC Ub]
 ·cases hv
end
end Go.Proofs.YtfmamkmmohilgaaGreatDoor
namespace Go.Proofs.YtfmamkmmohilgaaGreatDoor
open IntKind
set_option linter.all false
open Go.RowKit
theorem tN{K V:Type}(eq:K->K->Bool):∀(l:ah (K×V)) (x:K),rS eq l x=(na eq (l.map (·.1)) x).bind λi=>(l[i]?).map (·.2):=by
 intro l;induction l with
 |nil=>intro x;rfl
 |cons p l ih=>
  intro x;simp only[rS,dx,na]
  cases eq x p.1
  ·simp only[cond_false,ih]
   cases na eq (l.map (·.1)) x<;>simp
  ·rfl
theorem HQ{K:Type}(eq:K->K->Bool):∀(l:ah K) (x:K) (i:Nat),na eq l x=some i->∃y,l[i]?=some y/\eq x y=true:=by
 intro l;induction l with
 |nil=>intro x i h;cases h
 |cons a l ih=>
  intro x i h;simp only[na]at h;cases he:eq x a with
  |true=>rw[he]at h;cases h;exact⟨a,rfl,he⟩
  |false=>
   rw[he]at h;simp only[cond_false,aJ]at h;obtain⟨j,hj,rfl⟩:=h;obtain⟨y,h1,h2⟩:=ih x j hj;exact⟨y,by simpa using h1,h2⟩
theorem D6{K V:Type}(eq:K->K->Bool):∀(l:ah (K×V)) (x:K) (v:V),qu eq l x v=match na eq (l.map (·.1)) x with|some i=>l.set i (x,v)|none=>l++[(x,v)]:=by
 intro l;induction l with
 |nil=>intro x v;rfl
 |cons p l ih=>
  intro x v;simp only[qu,dx,na]
  cases eq x p.1
  ·simp only[cond_false,ih]
   cases na eq (l.map (·.1)) x<;>simp
  ·rfl
section
variable{U:Type}{El:U->Type}{P:Program}{X:Ctx U El}{S S':Nat->Prop}{ρ ρ':eJ}{w w':World}{E:fZ U El} [tD]
variable [DecidableEq U]
theorem D3{c c':AV U El}{v:Value}(h:c'=c\/(c'=.cL/\∃u',c=.au u' []))(hr:Rel E S ρ w c' v):Rel E S ρ w c v:=by
 rcases h with rfl|⟨rfl,u',rfl⟩
 ·exact hr
 ·cases hr;exact .jy u' none 0
theorem ra{u:U}{x:El u}{av:AV U El}{v:Value}(hg:oJ P E)(h:ya E u av=some x)(hr:Rel E S ρ w av v):gz E S ρ w u x v:=by
 have one:∀{a:AV U El},(bif E.agg u then none else E.dec u [a])=some x->Rel E S ρ w a v->gz E S ρ w u x v:=λ{a} h hr=>by
  cases ha:E.agg u with
  |true=>rw[ha]at h;cases h
  |false=>
   rw[ha]at h;obtain⟨h1,h2⟩:=hg.dec u _ x h;unfold gz;rw[if_neg (by simp[ha])]
   have hl:=hg.len u x;rw[<-h1]at hl;match he:E.enc u x,hl with
   |[c],_=>
    obtain⟨c',h3,h4⟩:=h2 0 c (by rw[he];rfl)
    cases h3;exact⟨c,rfl,D3 h4 hr⟩
 unfold ya at h;split at h
 ·rename_i cs;cases ha:E.agg u with
  |false=>rw[ha]at h;cases h
  |true=>
   rw[ha]at h;obtain⟨h1,h2⟩:=hg.dec u cs x h;unfold gz;rw[if_pos ha]
   generalize hq:AV.agg cs=q at hr;cases hr<;>cases hq
   rename_i vs hl hc;refine⟨vs,rfl,by rw[hl,h1,hg.len],λi c v' hi hv=>?_⟩
   obtain⟨c',h3,h4⟩:=h2 i c hi;exact D3 h4 (hc i c' v' h3 hv)
 ·cases h
 ·cases h
 ·exact one h hr
theorem wb{u:U}{x:El u}{v:Value}(h:gz E S ρ w u x v):Rel E S ρ w (wc E u x) v:=by
 unfold gz at h;unfold wc;split at h
 ·rename_i ha;obtain⟨vs,rfl,h1,h2⟩:=h;rw[ha]
  exact .agg _ vs h1 h2
 ·rename_i ha;obtain⟨c,h1,h2⟩:=h;rw[show E.agg u=false by simpa using ha,h1]
  exact h2
section ops
variable{o:Oper}{a:Act}{t:eH U El}{h H:bI U El}{B:Bd}{d:Nat}{k:Out U El->Option (Fin U El)}{r:Fin U El}
theorem F3{ty:TypeId}{u v:U}(ho:o.op=.makeMap ty none)(hlt:∀b,S b->b<w.heap.size)(hd:ρ d=none):fG P X.E S ρ w o a d ⟨.mp d,[(d,.map u v [])]⟩:=by
 refine uX (ob:=.map #[] 0) (v:=.map (some w.heap.size)) ⟨w.heap.size,1,1,0⟩ (by simp[dP,ho]) hd ?_ hlt (λ_=>rfl) (λρ' h1 _=>.mp d _ h1) (λρ' h1 _ rW=>?_)
 ·simp only[execOp,ho,Instr.makeMap,Option.map_none];rfl
 ·exact⟨rfl,aY _,rW,#[],0,lD w _,rfl,λi e p hi=>by simp at hi⟩
theorem Gd{t:eH U El}{m:Operand}{id:Nat}{u v:U}{es:ah (El u×El v)}(hr:Rel X.E S ρ w (bm t m) (a.eval m))(hm:bm t m=.mp id)(hH:fa X.E S ρ w B H)(hg:aN H id=some (.map u v es)):
 ∃l eQ clock,ρ id=some l/\a.eval m=.map (some l.b)/\l.n=1/\B.own l.b/\¬S l.b/\w.heap[l.b]?=some (.map eQ clock)/\eQ.size=es.length/\∀(i:Nat) (e:MapEntry) (p:El u×El v),eQ[i]?=some e->es[i]?=some p->gz X.E S ρ w u p.1 e.key/\gz X.E S ρ w v p.2 e.val:=by
 rw[hm]at hr;generalize hq:a.eval m=q at hr;cases hr with
 |mp _ l hl=>
  obtain⟨l',dq,iV⟩:=hH.get _ _ hg;rw[hl]at dq;cases dq;obtain⟨h1,h2,h3,eQ,clock,h4,h5,h6⟩:=iV;exact⟨l,eQ,clock,hl,rfl,h1,h2,h3,h4,h5,h6⟩
theorem Al{u v:U}{es:ah (El u×El v)}{eQ:Array MapEntry}{x:El u}{kv:Value}(K:AE P X.E u)(hsz:eQ.size=es.length)(oG:∀(i:Nat) (e:MapEntry) (p:El u×El v),eQ[i]?=some e->es[i]?=some p->gz X.E S ρ w u p.1 e.key/\gz X.E S ρ w v p.2 e.val)(hk:gz X.E S ρ w u x kv):
 ((Instr.findKey (X.E.tid u) kv eQ.toList).run P w=.ok none w/\na (X.E.nu u) (es.map (·.1)) x=none)\/
 ∃i e p,(Instr.findKey (X.E.tid u) kv eQ.toList).run P w=.ok (some (i,e.val)) w/\na (X.E.nu u) (es.map (·.1)) x=some i/\eQ[i]?=some e/\es[i]?=some p/\X.E.nu u x p.1=true/\gz X.E S ρ w u p.1 e.key/\gz X.E S ρ w v p.2 e.val:=by
 have hf:=K.find eQ.toList (es.map (·.1)) hk (by simp[hsz]) (λi e y he hy=>by
  simp only[bo,aJ]at hy;obtain⟨p,hp,rfl⟩:=hy;exact(oG i e p (by simpa using he) hp).1)
 cases hm:na (X.E.nu u) (es.map (·.1)) x with
 |none=>exact .inl ⟨by rw[hf,hm];rfl,rfl⟩
 |some i=>
  obtain⟨y,h1,h2⟩:=HQ _ _ _ _ hm;simp only[bo,aJ]at h1;obtain⟨p,hp,rfl⟩:=h1;have rX:i<eQ.size:=by rw[hsz];exact(ak.1 hp).1
  have he:eQ[i]?=some eQ[i]:=aC rX;refine .inr ⟨i,eQ[i],p,?_,rfl,he,hp,h2,oG i _ p he hp⟩
  rw[hf,hm]
  simp[rX]
theorem I5{ty:TypeId}{m ix:Operand}{ok:Bool}{id:Nat}{u v:U}{es:ah (El u×El v)}{x:El u}(hX:bp P X)(ho:o.op=.lookup ty m ix ok)(gM:dS X.iH ty=some (.map u v))(hm:bm t m=.mp id)(hg:aN h id=some (.map u v es))
 (Xn:X.E.N3 u=true) (Jm:X.E.PJ v=true) (hx:ya X.E u (bm t ix)=some x) (hT:mC X.E S ρ w o t a) (hH:fa X.E S ρ w B H) (hs:∀id b,aN h id=some b->aN H id=some b):
 fG P X.E S ρ w o a d ⟨bif ok then .bP [wc X.E v (gL (X.E.nu u) es x (X.E.iL v)),.bool (qK (X.E.nu u) es x)]else wc X.E v (gL (X.E.nu u) es x (X.E.iL v)),[]⟩:=by
 obtain⟨l,eQ,clock,hl,hq,_,_,_,hh,hsz,oG⟩:=Gd (hT.get (x:=m) (by simp[ho,Op.operands])) hm hH (hs _ _ hg)
 have nI:=ra hX.u hx (hT.get (x:=ix) (by simp[ho,Op.operands]))
 have K:=hX.u.key u Xn;obtain⟨i,z,hi,hz,N'⟩:=hX.u.val v Jm;have Qy:(zeroValue (X.E.tid v)).run P w=.ok z w:=by simp[zeroValue,typeInfo,hi,hz]
 have hu:P.underlying ty=some (.map (X.E.tid u) (X.E.tid v)):=hX.td _ _ gM
 have fin:∀(y:Value) (b:Bool),(Instr.lookup ty (a.eval m) (a.eval ix) ok).run P w=.ok (if ok then .tuple #[y,.bool b]else y) w->gz X.E S ρ w v (gL (X.E.nu u) es x (X.E.iL v)) y->qK (X.E.nu u) es x=b->
  fG P X.E S ρ w o a d ⟨bif ok then .bP [wc X.E v (gL (X.E.nu u) es x (X.E.iL v)),.bool (qK (X.E.nu u) es x)]else wc X.E v (gL (X.E.nu u) es x (X.E.iL v)),[]⟩:=by
  intro y b de hy hb;refine bR (v:=if ok then .tuple #[y,.bool b]else y) (by simp[execOp,ho,de]) ?_ hH.lt;cases ok with
  |false=>exact wb hy
  |true=>
   rw[hb]
   refine .bP _ _ rfl λj c v' hc hv=>?_
   match j,hc,hv with
   |0,hc,hv=>cases hc;cases hv;exact wb hy
   |1,hc,hv=>cases hc;cases hv;exact .bool b
 have hd:gL (X.E.nu u) es x (X.E.iL v)=((na (X.E.nu u) (es.map (·.1)) x).bind λi=>(es[i]?).map (·.2)).getD (X.E.iL v):=by unfold gL;rw[tN]
 have hb:qK (X.E.nu u) es x=((na (X.E.nu u) (es.map (·.1)) x).bind λi=>(es[i]?).map (·.2)).isSome:=by unfold qK;rw[tN]
 rcases Al K hsz oG nI with⟨hf,Ej⟩|⟨j,e,p,hf,Ej,he,hp,_,_,QM⟩
 ·rw[Ej]at hd hb;refine fin z false ?_ (by rw[hd];exact N' S ρ w) (by rw[hb];rfl)
  simp[Instr.lookup,run_underlying hu,hq,MapKept.run_getObj_map hh,K.check _ nI,hf,Qy]
 ·rw[Ej]at hd hb;simp only[iK,hp,eK,eL,Option.isSome_some]at hd hb;refine fin e.val true ?_ (by rw[hd];exact QM) hb;simp[Instr.lookup,run_underlying hu,hq,MapKept.run_getObj_map hh,K.check _ nI,hf]
theorem Ov{t:eH U El}{m:Operand}{u v:U}{es:ah (El u×El v)}(hr:Rel X.E S ρ w (bm t m) (a.eval m))(hm:bm t m=.sr u v es):
 ∃b eQ clock,a.eval m=.map (some b)/\w.heap[b]?=some (.map eQ clock)/\eQ.size=es.length/\∀(i:Nat) (e:MapEntry) (p:El u×El v),eQ[i]?=some e->es[i]?=some p->gz X.E S ρ w u p.1 e.key/\gz X.E S ρ w v p.2 e.val:=by
 rw[hm]at hr;generalize hq:a.eval m=q at hr;cases hr with
 |sr _ _ _ b eQ clock hS hb hn hf hk hv=>exact⟨b,eQ,clock,rfl,hb,hn,λi e p hi hp=>⟨.K8 (hf i e p hi hp).1 (hk i e p · · · hi hp),.K8 (hf i e p hi hp).2 (hv i e p · · · hi hp)⟩⟩
theorem F4{ty:TypeId}{m ix:Operand}{ok:Bool}{u v:U}{es:ah (El u×El v)}{x:El u}(hX:bp P X)(ho:o.op=.lookup ty m ix ok)(gM:dS X.iH ty=some (.map u v))(hm:bm t m=.sr u v es)
 (Xn:X.E.N3 u=true) (Jm:X.E.PJ v=true) (hx:ya X.E u (bm t ix)=some x) (hT:mC X.E S ρ w o t a) (hH:fa X.E S ρ w B H):
 fG P X.E S ρ w o a d ⟨bif ok then .bP [wc X.E v (gL (X.E.nu u) es x (X.E.iL v)),.bool (qK (X.E.nu u) es x)]else wc X.E v (gL (X.E.nu u) es x (X.E.iL v)),[]⟩:=by
 obtain⟨b0,eQ,clock,hq,hh,hsz,oG⟩:=Ov (hT.get (x:=m) (by simp[ho,Op.operands])) hm;have nI:=ra hX.u hx (hT.get (x:=ix) (by simp[ho,Op.operands]))
 have K:=hX.u.key u Xn;obtain⟨i,z,hi,hz,N'⟩:=hX.u.val v Jm;have Qy:(zeroValue (X.E.tid v)).run P w=.ok z w:=by simp[zeroValue,typeInfo,hi,hz]
 have hu:P.underlying ty=some (.map (X.E.tid u) (X.E.tid v)):=hX.td _ _ gM
 have fin:∀(y:Value) (b:Bool),(Instr.lookup ty (a.eval m) (a.eval ix) ok).run P w=.ok (if ok then .tuple #[y,.bool b]else y) w->gz X.E S ρ w v (gL (X.E.nu u) es x (X.E.iL v)) y->qK (X.E.nu u) es x=b->
  fG P X.E S ρ w o a d ⟨bif ok then .bP [wc X.E v (gL (X.E.nu u) es x (X.E.iL v)),.bool (qK (X.E.nu u) es x)]else wc X.E v (gL (X.E.nu u) es x (X.E.iL v)),[]⟩:=by
  intro y b de hy hb;refine bR (v:=if ok then .tuple #[y,.bool b]else y) (by simp[execOp,ho,de]) ?_ hH.lt;cases ok with
  |false=>exact wb hy
  |true=>
   rw[hb]
   refine .bP _ _ rfl λj c v' hc hv=>?_
   match j,hc,hv with
   |0,hc,hv=>cases hc;cases hv;exact wb hy
   |1,hc,hv=>cases hc;cases hv;exact .bool b
 have hd:gL (X.E.nu u) es x (X.E.iL v)=((na (X.E.nu u) (es.map (·.1)) x).bind λi=>(es[i]?).map (·.2)).getD (X.E.iL v):=by unfold gL;rw[tN]
 have hb:qK (X.E.nu u) es x=((na (X.E.nu u) (es.map (·.1)) x).bind λi=>(es[i]?).map (·.2)).isSome:=by unfold qK;rw[tN]
 rcases Al K hsz oG nI with⟨hf,Ej⟩|⟨j,e,p,hf,Ej,he,hp,_,_,QM⟩
 ·rw[Ej]at hd hb;refine fin z false ?_ (by rw[hd];exact N' S ρ w) (by rw[hb];rfl)
  simp[Instr.lookup,run_underlying hu,hq,MapKept.run_getObj_map hh,K.check _ nI,hf,Qy]
 ·rw[Ej]at hd hb;simp only[iK,hp,eK,eL,Option.isSome_some]at hd hb;refine fin e.val true ?_ (by rw[hd];exact QM) hb;simp[Instr.lookup,run_underlying hu,hq,MapKept.run_getObj_map hh,K.check _ nI,hf]
theorem NM{aaa:Array Operand}{ts:Array TypeId}{x:Operand}{id:Nat}{u v:U}{es:ah (El u×El v)}{ty:TypeId}{u1 v1:U}(hX:bp P X)(ho:o.op=.call ⟨.builtin .len,aaa,ts⟩)(has:aaa.toList=[x])(hx:bm t x=.mp id)(hg:aN h id=some (.map u v es))(TN:ts[0]?=some ty)(gM:dS X.iH ty=some (.map u1 v1))
 (hT:mC X.E S ρ w o t a) (hH:fa X.E S ρ w B H) (hs:∀id b,aN h id=some b->aN H id=some b):fG P X.E S ρ w o a d ⟨.int .i64 es.length,[]⟩:=by
 have ha:aaa=#[x]:=by apply f_;simpa using has
 subst ha;obtain⟨l,eQ,clock,hl,hq,_,_,_,hh,hsz,oG⟩:=Gd (hT.get (x:=x) (by simp[ho,Op.operands,Call.operands])) hx hH (hs _ _ hg)
 have hu:P.underlying ty=some (.map (X.E.tid u1) (X.E.tid v1)):=hX.td _ _ gM;refine bR (v:=.int .i64 es.length) ?_ (.int _ _) hH.lt;simp[execOp,ho,resolve,invoke,builtin,Builtin.len_,TN,hq,run_underlying hu,MapKept.run_getObj_map hh,goInt,hsz]
end ops
end
end Go.Proofs.YtfmamkmmohilgaaGreatDoor
namespace Go.Proofs.YtfmamkmmohilgaaGreatDoor
open IntKind
set_option linter.all false
open Go.RowKit
section
variable{U:Type}{El:U->Type}{P:Program}{X:Ctx U El}{S Sa S1 S':Nat->Prop}{ρ vl nM ρ':eJ}{w w':World} [DecidableEq U] [tD]
variable{o:Oper}{a:Act}{t:eH U El}{h H:bI U El}{B:Bd}{d:Nat}{r:Fin U El}
theorem GU{c:AV U El}(h:c.cell=true):c.plain=true:=by cases c<;>first|rfl|(simp[AV.cell]at h;done)
theorem Rel.to{c:AV U El}{v:Value}(hX:bp P X)(hr:Rel X.E S ρ w c v)(hS:∀b,S b->Sa b)(hc:c.cell=true):Rel X.E Sa vl w c v:=(hr.mono (ρ':=ρ) hS (λ_ _=>rfl) (λ_ _ h=>h)).ew hX.u hc
def tB(H:bI U El)(ρ:eJ)(Sa:Nat->Prop):Prop:=∀id b l,aN H id=some b->ρ id=some l->l.n≠0->Sa l.b
theorem toArg1_rel(hX:bp P X)(hH:fa X.E S ρ w B H)(hs: ∀id b,aN h id=some b->aN H id=some b)(hS: ∀b,S b->Sa b){td:Option (TD U)}{c c':AV U El}{v:Value}(hr:Rel X.E S ρ w c v)(hc:toArg1 X h td c=some c')(ho:c.plain=true\/tB H ρ Sa):Rel X.E Sa vl w c' v:=by
 unfold toArg1 at hc;split at hc
 ·rename_i id;split at hc
  ·rename_i u xs hg;cases hc;have gK:=ho.resolve_left (by simp[AV.plain,AV.cell])
   obtain⟨l,hl,h1,h2,h3,h4⟩:=hH.get _ _ (hs _ _ hg)
   have hp:=hX.u.pos u;cases hr with
   |j7 _ l' dq e1 e2=>rw[hl]at dq;cases dq;have:xs=[]:=bq ab;subst this;exact .jy u _ _
   |cf _ cap l' dq e1 e2=>
    rw[hl]at dq;cases dq;by_cases hn:l.n=0
    ·have:xs.length=0:=by
      rcases Nat.eq_zero_or_pos xs.length with e|e
      ·exact e
      ·have:=fP e hp;omega
     have:xs=[]:=bq this;subst this;rw[h2]
     exact .jy u _ _
    ·obtain⟨_,_,cc,hh,h5,h6⟩:=h4 hn;rw[h2]at e2⊢;refine .au u xs l.b 0 cap (λi j=>(cc[i*X.E.sz u+j]?).getD undef) (gK _ _ _ (hs _ _ hg) hl hn) e2 (λi x j c hi hj=>?_) (λi x j c hi hj=>?_)
     ·obtain⟨vv,hv,_⟩:=h6 i x j c hi hj;rw[bZ,cell_of_row w l.b _ cc _ (0,0) hh,hv];rfl
     ·obtain⟨vv,hv,Ed⟩:=h6 i x j c hi hj;rw[hv]
      exact Ed.to hX hS (hX.u.cell u x c (aD hj))
  ·cases hc
 ·rename_i id lo len;split at hc
  ·rename_i u xs hg;cases hc;have gK:=ho.resolve_left (by simp[AV.plain,AV.cell])
   obtain⟨l,hl,h1,h2,h3,h4⟩:=hH.get _ _ (hs _ _ hg)
   have hp:=hX.u.pos u;cases hr with
   |nH _ _ ao cap=>simp only[List.take_zero];exact .jy u _ _
   |own _ _ _ cap l' dq e1 e2 e3=>
    rw[hl]at dq;cases dq;by_cases Gq:len=0
    ·subst Gq;simp only[List.take_zero];exact .jy u _ _
    ·have hn:l.n≠0:=by
      have:0<(lo+cap)*l.s:=fP ab ab
      omega
     obtain⟨_,_,cc,hh,h5,h6⟩:=h4 hn;have hlen:((xs.drop lo).take len).length=len:=by simp;omega
     have aN:∀(i:Nat) x,((xs.drop lo).take len)[i]?=some x->xs[lo+i]?=some x:=λi x hi=>by
      rw[fQ]at hi;split at hi
      ·rw[cg]at hi;exact hi
      ·cases hi
     have:=Rel.au (E:=X.E) (S:=Sa) (ρ:=vl) (w:=w) u ((xs.drop lo).take len) l.b (lo*l.s) cap (λi j=>(cc[(lo+i)*X.E.sz u+j]?).getD undef) (gK _ _ _ (hs _ _ hg) hl hn) (by rw[hlen];exact e2)
      (λi x j c hi hj=>by
       obtain⟨vv,hv,_⟩:=h6 (lo+i) x j c (aN i x hi) hj;rw[h1,<-cY,cell_of_row w l.b _ cc _ (0,0) hh,hv];rfl)
      (λi x j c hi hj=>by
       obtain⟨vv,hv,Ed⟩:=h6 (lo+i) x j c (aN i x hi) hj;rw[hv]
       exact Ed.to hX hS (hX.u.cell u x c (aD hj)))
     rw[hlen]at this;exact this
  ·cases hc
 ·split at hc
  ·cases hc;cases hr;exact .jy _ _ _
  ·cases hc;cases hr;exact .cL
 ·cases hc;cases hr;exact .bool _
 ·cases hc;cases hr;exact .int _ _
 ·cases hc;cases hr;exact .str _
 ·cases hc;cases hr;exact .j5
 ·cases hc;cases hr;exact .lN
 ·cases hc;cases hr;exact .oT
 ·cases hc;cases hr;exact .oz
 ·cases hc;cases hr;exact .err _ _
 ·cases hc;exact hr.to hX hS rfl
 ·cases hc;cases hr with
  |pel _ _ _ _ b o cap hl hi=>exact .pel _ _ _ _ b o cap (hl.to hX hS rfl) hi
 ·cases hc;exact hr.to hX hS rfl
 ·rename_i id;split at hc
  ·rename_i u v es hg;cases hc;have gK:=ho.resolve_left (by simp[AV.plain,AV.cell])
   obtain⟨l,hl,h1,h2,h3,eQ,clock,h4,h5,h6⟩:=hH.get _ _ (hs _ _ hg)
   cases hr with
   |mp _ l' dq=>
    rw[hl]at dq;cases dq;exact .sr u v es l.b eQ clock (gK _ _ _ (hs _ _ hg) hl ab) h4 h5 (λi e p hi hp=>⟨(h6 i e p hi hp).1.fit.1,(h6 i e p hi hp).2.fit.1⟩)
     (λi e p j c x hi hp hc hx=>((h6 i e p hi hp).1.fit.2 j c x hc hx).to hX hS (hX.u.cell u p.1 c (aD hc)))
     (λi e p j c x hi hp hc hx=>((h6 i e p hi hp).2.fit.2 j c x hc hx).to hX hS (hX.u.cell v p.2 c (aD hc)))
  ·cases hc
 ·cases hc
theorem toArgs1_rel(hX:bp P X)(hH:fa X.E S ρ w B H)(hs: ∀id b,aN h id=some b->aN H id=some b)(hS: ∀b,S b->Sa b): ∀(cs ds:ah (AV U El)),toArgs1 X h cs=some ds->(cs.all AV.cell=true\/tB H ρ Sa)->
 ds.length=cs.length/\∀(i:Nat) c' v,ds[i]?=some c'->(∀c,cs[i]?=some c->Rel X.E S ρ w c v)->Rel X.E Sa vl w c' v:=by
 intro cs;induction cs with
 |nil=>intro ds h _;simp[toArgs1]at h;subst h;simp
 |cons c cs ih=>
  intro ds hd ho;simp only[toArgs1]at hd;split at hd
  ·rename_i d' rZ;split at hd
   ·rename_i Mh Ab;cases hd;obtain⟨e1,e2⟩:=ih Mh Ab (ho.imp (λe=>by simp at e⊢;exact e.2) id)
    refine⟨by simp[e1],λi c' v hi hr=>?_⟩
    cases i with
    |zero=>
     simp at hi;subst hi;exact toArg1_rel hX hH hs hS (hr c rfl) rZ (ho.imp (λe=>by simp at e;exact GU e.1) id)
    |succ i=>exact e2 i c' v (by simpa using hi) (λc hc=>hr c (by simpa using hc))
   ·cases hd
  ·cases hd
theorem toArg2_rel(hX:bp P X)(hH:fa X.E S ρ w B H)(hs: ∀id b,aN h id=some b->aN H id=some b)(hS: ∀b,S b->Sa b){td:Option (TD U)}{c c':AV U El}{v:Value}(hr:Rel X.E S ρ w c v)(hc:toArg2 X h td c=some c')(ho:c.plain=true\/tB H ρ Sa):Rel X.E Sa vl w c' v:=by
 unfold toArg2 at hc;split at hc
 ·rename_i cs;split at hc
  ·rename_i ds Jy;cases hc;obtain⟨e1,e2⟩:=toArgs1_rel (vl:=vl) hX hH hs hS cs ds Jy (ho.imp (λe=>e) id)
   cases hr with
   |agg _ vs hl hrel=>exact .agg _ _ (by rw[hl,e1]) λi c' v hi hv=>e2 i c' v hi (λc hc=>hrel i c v hc hv)
  ·cases hc
 ·rename_i id off;split at hc
  ·rename_i cs hg;split at hc
   ·rename_i ds Jy;cases hc;have gK:=ho.resolve_left (by simp[AV.plain,AV.cell])
    obtain⟨e1,e2⟩:=toArgs1_rel (vl:=vl) hX hH hs hS cs ds Jy (.inr gK)
    obtain⟨l,hl,_,h1,h2⟩:=hH.get _ _ (hs _ _ hg)
    cases hr with
    |ptr _ _ l' dq=>
     rw[hl]at dq;cases dq;by_cases hn:l.n=0
     ·have:ds=[]:=bq ab
      subst this;have:=Rel.pcs (E:=X.E) (S:=Sa) (ρ:=vl) (w:=w) [] off l.b 0 (λ_=>undef) (λh=>absurd rfl h) ae ae
      rwa [bZ]at this
     ·obtain⟨_,_,cc,e,hh,h3,h4⟩:=h2 hn;have:=Rel.pcs (E:=X.E) (S:=Sa) (ρ:=vl) (w:=w) ds off l.b 0 (λj=>(cc[j]?).getD undef) (λ_=>gK _ _ _ (hs _ _ hg) hl hn)
       (λj c' hj=>by
        have uf:j<cs.length:=by rw[<-e1];exact(ak.1 hj).1
        obtain⟨vv,hv,_⟩:=h4 j _ (az uf)
        rw[bZ,cell_of_row w l.b _ cc _ (0,0) hh,hv];rfl)
       (λj c' hj=>by
        have uf:j<cs.length:=by rw[<-e1];exact(ak.1 hj).1
        obtain⟨vv,hv,Ed⟩:=h4 j _ (az uf)
        rw[hv]
        exact e2 j c' _ hj (λc hc=>by rw[az uf]at hc;cases hc;exact Ed))
      rwa [bZ]at this
   ·cases hc
  ·cases hc
 ·rename_i cs off;split at hc
  ·rename_i ds Jy;cases hc;have gK:=ho.resolve_left (by simp[AV.plain,AV.cell])
   obtain⟨e1,e2⟩:=toArgs1_rel (vl:=vl) hX hH hs hS cs ds Jy (.inr gK)
   cases hr with
   |pcs _ _ b o val XS hcell hrel=>
    refine .pcs ds off b o val (λhn=>hS _ (XS (by rintro rfl;exact hn (bq (by simpa using e1))))) (λj c' hj=>?_) (λj c' hj=>e2 j c' _ hj (λc hc=>hrel j c hc))
    have uf:j<cs.length:=by rw[<-e1];exact(ak.1 hj).1
    exact hcell j _ (az uf)
  ·cases hc
 ·exact toArg1_rel hX hH hs hS hr hc ho
theorem toArgs2_rel(hX:bp P X)(hH:fa X.E S ρ w B H)(hs: ∀id b,aN h id=some b->aN H id=some b)(hS: ∀b,S b->Sa b): ∀(cs ds:ah (AV U El)),toArgs2 X h cs=some ds->(cs.all AV.plain=true\/tB H ρ Sa)->
 ds.length=cs.length/\∀(i:Nat) c' v,ds[i]?=some c'->(∀c,cs[i]?=some c->Rel X.E S ρ w c v)->Rel X.E Sa vl w c' v:=by
 intro cs;induction cs with
 |nil=>intro ds h _;simp[toArgs2]at h;subst h;simp
 |cons c cs ih=>
  intro ds hd ho;simp only[toArgs2]at hd;split at hd
  ·rename_i d' rZ;split at hd
   ·rename_i Mh Ab;cases hd;obtain⟨e1,e2⟩:=ih Mh Ab (ho.imp (λe=>by simp at e⊢;exact e.2) id)
    refine⟨by simp[e1],λi c' v hi hr=>?_⟩
    cases i with
    |zero=>
     simp at hi;subst hi;exact toArg2_rel hX hH hs hS (hr c rfl) rZ (ho.imp (λe=>by simp at e;exact e.1) id)
    |succ i=>exact e2 i c' v (by simpa using hi) (λc hc=>hr c (by simpa using hc))
   ·cases hd
  ·cases hd
theorem toArg3_rel(hX:bp P X)(hH:fa X.E S ρ w B H)(hs: ∀id b,aN h id=some b->aN H id=some b)(hS: ∀b,S b->Sa b){td:Option (TD U)}{c c':AV U El}{v:Value}(hr:Rel X.E S ρ w c v)(hc:toArg3 X h td c=some c')(ho:c.plain=true\/tB H ρ Sa):Rel X.E Sa vl w c' v:=by
 unfold toArg3 at hc;split at hc
 ·rename_i id off;split at hc
  ·rename_i cs hg;split at hc
   ·rename_i ds Jy;cases hc;have gK:=ho.resolve_left (by simp[AV.plain,AV.cell])
    obtain⟨e1,e2⟩:=toArgs2_rel (vl:=vl) hX hH hs hS cs ds Jy (.inr gK)
    obtain⟨l,hl,_,h1,h2⟩:=hH.get _ _ (hs _ _ hg)
    cases hr with
    |ptr _ _ l' dq=>
     rw[hl]at dq;cases dq;by_cases hn:l.n=0
     ·have:ds=[]:=bq ab
      subst this;have:=Rel.pcs (E:=X.E) (S:=Sa) (ρ:=vl) (w:=w) [] off l.b 0 (λ_=>undef) (λh=>absurd rfl h) ae ae
      rwa [bZ]at this
     ·obtain⟨_,_,cc,e,hh,h3,h4⟩:=h2 hn;have:=Rel.pcs (E:=X.E) (S:=Sa) (ρ:=vl) (w:=w) ds off l.b 0 (λj=>(cc[j]?).getD undef) (λ_=>gK _ _ _ (hs _ _ hg) hl hn)
       (λj c' hj=>by
        have uf:j<cs.length:=by rw[<-e1];exact(ak.1 hj).1
        obtain⟨vv,hv,_⟩:=h4 j _ (az uf)
        rw[bZ,cell_of_row w l.b _ cc _ (0,0) hh,hv];rfl)
       (λj c' hj=>by
        have uf:j<cs.length:=by rw[<-e1];exact(ak.1 hj).1
        obtain⟨vv,hv,Ed⟩:=h4 j _ (az uf)
        rw[hv]
        exact e2 j c' _ hj (λc hc=>by rw[az uf]at hc;cases hc;exact Ed))
      rwa [bZ]at this
   ·cases hc
  ·cases hc
 ·rename_i cs off;split at hc
  ·rename_i ds Jy;cases hc;have gK:=ho.resolve_left (by simp[AV.plain,AV.cell])
   obtain⟨e1,e2⟩:=toArgs2_rel (vl:=vl) hX hH hs hS cs ds Jy (.inr gK)
   cases hr with
   |pcs _ _ b o val XS hcell hrel=>
    refine .pcs ds off b o val (λhn=>hS _ (XS (by rintro rfl;exact hn (bq (by simpa using e1))))) (λj c' hj=>?_) (λj c' hj=>e2 j c' _ hj (λc hc=>hrel j c hc))
    have uf:j<cs.length:=by rw[<-e1];exact(ak.1 hj).1
    exact hcell j _ (az uf)
  ·cases hc
 ·exact toArg2_rel hX hH hs hS hr hc ho
theorem toArgs3_rel(hX:bp P X)(hH:fa X.E S ρ w B H)(hs: ∀id b,aN h id=some b->aN H id=some b)(hS: ∀b,S b->Sa b): ∀(cs ds:ah (AV U El)),toArgs3 X h cs=some ds->(cs.all AV.plain=true\/tB H ρ Sa)->
 ds.length=cs.length/\∀(i:Nat) c' v,ds[i]?=some c'->(∀c,cs[i]?=some c->Rel X.E S ρ w c v)->Rel X.E Sa vl w c' v:=by
 intro cs;induction cs with
 |nil=>intro ds h _;simp[toArgs3]at h;subst h;simp
 |cons c cs ih=>
  intro ds hd ho;simp only[toArgs3]at hd;split at hd
  ·rename_i d' rZ;split at hd
   ·rename_i Mh Ab;cases hd;obtain⟨e1,e2⟩:=ih Mh Ab (ho.imp (λe=>by simp at e⊢;exact e.2) id)
    refine⟨by simp[e1],λi c' v hi hr=>?_⟩
    cases i with
    |zero=>
     simp at hi;subst hi;exact toArg3_rel hX hH hs hS (hr c rfl) rZ (ho.imp (λe=>by simp at e;exact e.1) id)
    |succ i=>exact e2 i c' v (by simpa using hi) (λc hc=>hr c (by simpa using hc))
   ·cases hd
  ·cases hd
theorem toArg_rel(hX:bp P X)(hH:fa X.E S ρ w B H)(hs: ∀id b,aN h id=some b->aN H id=some b)(hS: ∀b,S b->Sa b){td:Option (TD U)}{c c':AV U El}{v:Value}(hr:Rel X.E S ρ w c v)(hc:toArg X h td c=some c')(ho:c.plain=true\/tB H ρ Sa):Rel X.E Sa vl w c' v:=by
 unfold toArg at hc;split at hc
 ·rename_i f aaa bs;split at hc
  ·rename_i as' has;split at hc
   ·rename_i bs' XH;cases hc;obtain⟨e1,e2⟩:=toArgs3_rel (vl:=vl) hX hH hs hS aaa as' has (ho.imp (λe=>by simp[AV.plain]at e;simp[e.1]) id)
    obtain⟨f1,f2⟩:=toArgs3_rel (vl:=vl) hX hH hs hS bs bs' XH (ho.imp (λe=>by simp[AV.plain]at e;simp[e.2]) id)
    cases hr with
    |fn _ _ _ vf vc sg tR hf hc=>exact .fn _ _ _ _ _ (by rw[sg,e1]) (by rw[tR,f1]) (λi c' v hi hv=>e2 i c' v hi (λc hc=>hf i c v hc hv)) (λi c' v hi hv=>f2 i c' v hi (λc wE=>hc i c v wE hv))
   ·cases hc
  ·cases hc
 ·exact toArg3_rel hX hH hs hS hr hc ho
theorem toArgs_rel(hX:bp P X)(hH:fa X.E S ρ w B H)(hs: ∀id b,aN h id=some b->aN H id=some b)(hS: ∀b,S b->Sa b): ∀(cs ds:ah (AV U El)) (ts:ah TypeId),toArgs X h cs ts=some ds->(cs.all AV.plain=true\/tB H ρ Sa)->
 ds.length=cs.length/\∀(i:Nat) c' v,ds[i]?=some c'->(∀c,cs[i]?=some c->Rel X.E S ρ w c v)->Rel X.E Sa vl w c' v:=by
 intro cs;induction cs with
 |nil=>intro ds ts h _;simp[toArgs]at h;subst h;simp
 |cons c cs ih=>
  intro ds ts hd ho;simp only[toArgs]at hd;split at hd
  ·rename_i d' rZ;split at hd
   ·rename_i Mh Ab;cases hd;obtain⟨e1,e2⟩:=ih Mh _ Ab (ho.imp (λe=>by simp at e⊢;exact e.2) id)
    refine⟨by simp[e1],λi c' v hi hr=>?_⟩
    cases i with
    |zero=>
     simp at hi;subst hi;exact toArg_rel hX hH hs hS (hr c rfl) rZ (ho.imp (λe=>by simp at e;exact e.1) id)
    |succ i=>exact e2 i c' v (by simpa using hi) (λc hc=>hr c (by simpa using hc))
   ·cases hd
  ·cases hd
theorem DI{ok:AV U El->Bool}(Om:(∃c,ok c=true/\c.re=false)-> ∀b,S1 b->S' b)(hok: ∀c v,ok c=true->Rel X.E S1 nM w' c v->Rel X.E S' ρ' w' c v)(hcell: ∀c,ok c=true->c.cell=true)(s9: ∀id l,id<4->nM id=some l->ρ' (d*1000+id)=some l){c:AV U El}{v:Value}(hc:c.Ht ok=true)(hr:Rel X.E S1 nM w' c v):Rel X.E S' ρ' w' (rename d c) v:=by
 unfold AV.Ht at hc;split at hc
 ·rename_i id;have hid:id<4:=aV hc;cases hr with
  |cf _ cap l hl h1 h2=>exact .cf _ cap l (s9 _ _ hid hl) h1 h2
  |j7 _ l hl h1 h2=>exact .j7 _ l (s9 _ _ hid hl) h1 h2
 ·rename_i cs;cases hr with
  |agg _ vs hl hrel=>
   refine .agg _ _ (by simpa using hl) λi c v hi hv=>?_
   simp only[bo,aJ]at hi;obtain⟨c0,hc0,rfl⟩:=hi;have Zh:=hrel i c0 v hc0 hv;have hc1:=aP.1 hc c0 (aD hc0)
   cases hk:ok c0 with
   |true=>
    have he:Hu d c0=c0:=by
     have:=hcell c0 hk;cases c0<;>first|rfl|(simp[AV.cell]at this)
    rw[he]
    exact hok c0 v hk Zh
   |false=>
    rw[hk,fe]at hc1;split at hc1
    ·rename_i id;have hid:id<4:=aV hc1;cases Zh with
     |cf _ cap l hl h1 h2=>exact .cf _ cap l (s9 _ _ hid hl) h1 h2
     |j7 _ l hl h1 h2=>exact .j7 _ l (s9 _ _ hid hl) h1 h2
    ·cases hc1
 ·rename_i f cs off;simp only[aj,cF]at hc;have XR:∀b,S1 b->S' b:=Om (by
   obtain⟨c,hm,hcf⟩:=List.all_eq_false.1 hc.2;exact⟨c,aP.1 hc.1 c hm,by simpa using hcf⟩)
  have he:rename d (.fn f [] [.pcs cs off]:AV U El)=.fn f [] [.pcs cs off]:=rfl;rw[he]
  cases hr with
  |fn _ _ _ vf vc sg tR hf wE=>
   refine .fn f [] _ vf vc sg tR (λi c v h=>by cases h) λi c v hi hv=>?_
   have h2:=wE i c v hi hv;match i,hi with
   |0,hi=>
    cases hi;cases h2 with
    |pcs _ _ b o val hb RM h=>exact .pcs cs off b o val (λhn=>XR b (hb hn)) RM λj c hj=>hok c _ (aP.1 hc.1 c (aD hj)) (h j c hj)
 ·rename_i h1 h2 h3;have he:rename d c=c:=by
   unfold rename;split
   ·exact absurd rfl (h1 _)
   ·exact absurd rfl (h2 _)
   ·rfl
  rw[he]
  exact hok c v hc hr
theorem NA{ok:AV U El->Bool}(Om:(∃c,ok c=true/\c.re=false)->∀b,S1 b->S' b)(hok:∀c v,ok c=true->Rel X.E S1 nM w' c v->Rel X.E S' ρ' w' c v)(hcell:∀c,ok c=true->c.cell=true)(s9:∀id l,id<4->nM id=some l->ρ' (d*1000+id)=some l){c:AV U El}{v:Value}(hc:c.FO ok=true)(hr:Rel X.E S1 nM w' c v):Rel X.E S' ρ' w' (tH d c) v:=by
 unfold AV.FO at hc;split at hc
 ·rename_i cs;cases hr with
  |bP _ vs hl hrel=>
   refine .bP _ _ (by simpa using hl) λi c v hi hv=>?_
   simp only[bo,aJ]at hi;obtain⟨c0,hc0,rfl⟩:=hi;exact DI Om hok hcell s9 (by simp at hc;exact hc c0 (aD hc0)) (hrel i c0 v hc0 hv)
 ·rename_i h1;have he:tH d c=rename d c:=by
   unfold tH;split
   ·exact absurd rfl (h1 _)
   ·rfl
  rw[he]
  exact DI Om hok hcell s9 hc hr
theorem pX{ex:bI U El}{j:Nat}{b:qm U El}(h:aN (pY d ex) j=some b):∃id,j=d*1000+id/\aN ex id=some b:=by
 induction ex with
 |nil=>simp[pY,aN]at h
 |cons p ex ih=>
  obtain⟨i,c⟩:=p;simp only[pY,aN]at h;by_cases e:d*1000+i=j
  ·subst e;refine⟨i,rfl,?_⟩
   simp only[aN]
   rw[aG]at h⊢;exact h
  ·rw[aO e]at h;obtain⟨id,h1,h2⟩:=ih h;refine⟨id,h1,?_⟩
   have:i≠id:=ab
   simp only[aN,aO this]
   exact h2
theorem Ny{ex:bI U El}(h:sD ex=true){id:Nat}{b:qm U El}(hg:aN ex id=some b):∃u xs,b=.rows u xs:=by
 induction ex with
 |nil=>cases hg
 |cons p ex ih=>
  obtain⟨i,c⟩:=p;cases c with
  |box t cs=>simp[sD]at h
  |map u v es=>simp[sD]at h
  |jC u ks cs=>simp[sD]at h
  |uk T j=>simp[sD]at h
  |pZ t u xs=>simp[sD]at h
  |rows u xs=>
   simp only[sD]at h;simp only[aN]at hg;cases e:Nat.beq i id with
   |true=>rw[e]at hg;cases hg;exact⟨_,_,rfl⟩
   |false=>rw[e]at hg;exact ih h hg
theorem Ox{ex:bI U El}(h:uz X.E ex=true){id:Nat}{u:U}{xs:ah (El u)}(hg:aN ex id=some (.rows u xs)):X.E.fl u=true:=by
 induction ex with
 |nil=>cases hg
 |cons p ex ih=>
  obtain⟨i,c⟩:=p;cases c with
  |box t cs=>simp[uz]at h
  |map u v es=>simp[uz]at h
  |jC u ks cs=>simp[uz]at h
  |uk T j=>simp[uz]at h
  |pZ t u xs=>simp[uz]at h
  |rows u xs=>
   simp only[uz,aj]at h;simp only[aN]at hg;cases e:Nat.beq i id with
   |true=>rw[e]at hg;cases hg;exact h.1
   |false=>rw[e]at hg;exact ih h.2 hg
theorem tq{j d:Nat}:j∈jM d↔∃i,i<4/\j=d*1000+i:=by
 unfold jM;constructor
 ·intro h;rcases bN.1 h with e|h
  ·exact⟨0,af,e⟩
  rcases bN.1 h with e|h
  ·exact⟨1,af,e⟩
  rcases bN.1 h with e|h
  ·exact⟨2,af,e⟩
  rcases bN.1 h with e|h
  ·exact⟨3,af,e⟩
  ·cases h
 ·rintro⟨i,h,rfl⟩
  match i,h with
  |0,_=>exact gX
  |1,_=>exact dE _ gX
  |2,_=>exact dE _ (dE _ gX)
  |3,_=>exact dE _ (dE _ (dE _ gX))
theorem wu{Sx:Nat->Prop}{ok:AV U El->Bool}(Om:(∃c,ok c=true/\c.re=false)->∀b,S1 b->S' b){res:AV U El}{ex:bI U El}{v:Value}{f:Operand}{aaa:Array Operand}{ts:Array TypeId}(ho:o.op=.call ⟨.value f,aaa,ts⟩)(hX:bp P X)(W7:∀c,ok c=true->c.cell=true)(hok:∀c v J3,ok c=true->Rel X.E S1 nM w' c v->Rel X.E S' J3 w' c v)
 (mq:Step Sx (λ_=>none) w S1 nM w') (hlt:∀b,S b->b<w.heap.size) (s1:∀b,S b->S' b) (s2:∀b,S' b->S b\/w.heap.size<=b) (Ek:∀b,S' b->b<w'.heap.size) (rW:∀b,w.heap.size<=b->¬S1 b->¬S' b)
 (Oh:fa X.E S1 nM w' (From w) ex) (hid:∀id b,aN ex id=some b->id<4) (oE:sD ex=true) (QZ:∀id u xs,aN ex id=some (.rows u xs)->∀x c,c∈X.E.enc u x->ok c=true) (fJ:res.FO ok=true) (Oc:Rel X.E S1 nM w' res v) (hd:∀j∈jM d,ρ j=none)
 {next:Act->World->Prop} (hn:∀v w' S' ρ',Step S ρ w S' ρ' w'->Rel X.E S' ρ' w' (tH d res) v->fa X.E S' ρ' w' (From w) (pY d ex)->(∀id b,aN (pY d ex) id=some b->id∈dP o d)->(∀id,id∉dP o d->ρ' id=ρ id)->next (a.put o.dst v) w'):next (a.put o.dst v) w':=by
 have Gp:dP o d=jM d:=by simp[dP,ho]
 have N_:∀id l,id<4->nM id=some l->(λj=>if j∈jM d then nM (j-d*1000)else ρ j) (d*1000+id)=some l:=λid l h e=>by
  have:d*1000+id∈jM d:=tq.2 ⟨id,h,rfl⟩
  simp only[if_pos this]
  rw[show d*1000+id-d*1000=id by omega]
  exact e
 refine hn v w' S' (λj=>if j∈jM d then nM (j-d*1000)else ρ j) ⟨mq.fr,s1,s2,λid l e=>?_,hlt⟩ (NA Om (λc v h1 h2=>hok c v _ h1 h2) W7 N_ fJ Oc) ⟨λj b hg=>?_,λi j b b' l l' hi hj gn oL lV hn oK=>?_,Ek⟩ (λid b hg=>?_) (λid hi=>?_)
 ·have:id∉jM d:=λh=>by rw[hd id h]at e;cases e
  simp only[if_neg this]
  exact e
 ·obtain⟨id,rfl,Fl⟩:=pX hg;obtain⟨u,xs,rfl⟩:=Ny oE Fl;obtain⟨l,hl,h1,h2,h3,h4⟩:=Oh.get _ _ Fl;refine⟨l,N_ id l (hid _ _ Fl) hl,h1,h2,h3,λhn=>?_⟩
  obtain⟨h5,h6,c,hh,h7,h8⟩:=h4 hn;refine⟨h5,rW _ h5 h6,c,hh,h7,λi x j a hi hj=>?_⟩
  obtain⟨vv,hv,hr⟩:=h8 i x j a hi hj;exact⟨vv,hv,hok a vv _ (QZ id u xs Fl x a (aD hj)) hr⟩
 ·obtain⟨id,rfl,Fl⟩:=pX hi;obtain⟨j6,rfl,QV⟩:=pX hj;have e1:=hid _ _ Fl;have e2:=hid _ _ QV;obtain⟨l1,Db,_⟩:=Oh.get _ _ Fl;obtain⟨l2,qx,_⟩:=Oh.get _ _ QV;have k1:some l1=some l:=(N_ id l1 e1 Db).symm.trans oL;have k2:some l2=some l':=(N_ j6 l2 e2 qx).symm.trans lV;cases k1;cases k2;exact Oh.inj id j6 b b' _ _ Fl QV (λe=>gn (by rw[e])) Db qx hn oK
 ·obtain⟨i,rfl,Fl⟩:=pX hg;rw[Gp]
  exact tq.2 ⟨i,hid _ _ Fl,rfl⟩
 ·rw[Gp]at hi;simp only[if_neg hi]
theorem rN{c:AV U El}(h:c.re=true):c.cell=true:=by cases c<;>first|rfl|(simp[AV.re,AV.cell]at h;done)
theorem Ar{c:AV U El}(h:c.re=true):c.flat=true:=by cases c<;>first|rfl|(simp[AV.re,AV.cell]at h;done)
theorem Mt{c:AV U El}(h:c.cell=true)(hf:c.flat=true):c.re=true:=by cases c<;>first|rfl|(simp[AV.cell]at h;done)|(simp[AV.flat]at hf;done)
theorem NN{f:Operand}{aaa:Array Operand}{ts:Array TypeId}{k:Out U El->Option (Fin U El)}(hX:bp P X)(ho:o.op=.call ⟨.value f,aaa,ts⟩)
 (hv:evalOp X o t h d k=some r) (hT:mC X.E S ρ w o t a) (hH:fa X.E S ρ w B H) (hs:∀id b,aN h id=some b->aN H id=some b) (hd:∀j∈jM d,ρ j=none) (hG:X.E.G w):∃out,k out=some r/\fG P X.E S ρ w o a d out:=by
 have hf:=hT.get (x:=f) (by simp[ho,Op.operands,Call.operands])
 have qT:∀x∈aaa,Rel X.E S ρ w (bm t x) (a.eval x):=λx hx=>hT.get (by simp[ho,Op.operands,Call.operands];exact .inr hx)
 simp only[evalOp,ho]at hv;split at hv
 ·rename_i g first mO QY
  rw[QY]at hf;generalize hq:a.eval f=q at hf;cases hf with
  |fn _ _ _ vf vc sg tR TR CI=>
   split at hv
   ·rename_i vs _X;obtain⟨res,ex,pz,gq⟩:=hX.spec _ _ _ _ hv;obtain⟨iu,qv⟩:=aQ gq;refine⟨_,qv,?_⟩
    simp only[aj,eX]at iu;obtain⟨⟨fJ,oE⟩,Pt⟩:=iu;have de:(execOp a.eval o).run P w=(callFunc g (vf++aaa.map a.eval++vc)).run P w:=by
     simp[execOp,ho,resolve,Deferred.ofValue,hq,invoke]
    have Gm:(vf++aaa.map a.eval++vc).size=(first++aaa.toList.map (bm t)++mO).length/\∀(i:Nat) c v,(first++aaa.toList.map (bm t)++mO)[i]?=some c->(vf++aaa.map a.eval++vc)[i]?=some v->Rel X.E S ρ w c v:=by
     refine⟨by simp[sg,tR],λi c v hc hv=>?_⟩
     have eC:(vf.toList++aaa.toList.map a.eval++vc.toList)[i]?=some v:=by
      rw[<-bO]at hv;simpa using hv
     by_cases h1:i<first.length+aaa.size
     ·rw[a_ (by simp;omega)]at hc;rw[a_ (by simp;omega)]at eC;by_cases h2:i<first.length
      ·rw[a_ h2]at hc;rw[a_ (by simp;omega)]at eC;exact TR i c v hc (by simpa using eC)
      ·rw[br ab]at hc;rw[br (by simp;omega)]at eC;simp only[bo,aJ,cW,sg]at hc eC;obtain⟨x,hx,rfl⟩:=hc;obtain⟨y,hy,rfl⟩:=eC;rw[hx]at hy;cases hy;exact qT x (by simpa using aD hx)
     ·rw[br (by simp;omega)]at hc;rw[br (by simp;omega)]at eC;simp only[aF,gk,cW,sg]at hc eC;exact CI _ c v hc (by simpa using eC)
    have base:∀(Sa:Nat->Prop),(∀b,S b->Sa b)->((first++aaa.toList.map (bm t)++mO).all AV.plain=true\/tB H ρ Sa)->pb X.E Sa (λ_=>none) w vs (vf++aaa.map a.eval++vc):=by
     intro Sa hSa gK;obtain⟨e1,e2⟩:=toArgs_rel (vl:=λ_=>none) hX hH hs hSa _ _ _ _X gK;refine⟨by rw[Gm.1,e1],λi c' v hc hv=>e2 i c' v hc (λc wE=>Gm.2 i c v wE hv)⟩
    rcases pz with⟨kH,hid,vT⟩|⟨rfl,vT⟩
    ·intro next Q hn
     unfold Oper.wp;rw[de,kH]
     show Calls P g _ w _;rcases Pt with⟨Xj,Zp⟩|hm
     ·have gK:tB H ρ (λb=>b<w.heap.size):=λid b l h1 h2 h3=>by
       obtain⟨l',e1,e2⟩:=hH.get _ _ h1;rw[h2]at e1;cases e1;exact(e2.lt h3).1
      refine(vT (λb=>b<w.heap.size) w _ (λ_ h=>h) hG (base _ hH.lt (.inr gK))).mono ?_;rintro e w' ⟨v,S1,nM,rfl,mq,Oh,Oc⟩
      exact wu (S':=S) (ok:=AV.re) (λ⟨c,h1,h2⟩=>by rw[h1]at h2;cases h2) ho hX (λc=>rN) (λc v J3 h1 h2=>(h2.flat (Ar h1)).ew hX.u (rN h1)) mq hH.lt (λ_ h=>h) (λ_ h=>.inl h) (λb hb=>fk (hH.lt b hb) mq.below.size) (λb hb _ hs=>by have:=hH.lt b hs;omega) Oh hid oE
       (λid u xs hg x c hc=>Mt (hX.u.cell u x c hc) (hX.u.flat u (Ox Zp hg) x c hc)) Xj Oc hd hn
     ·refine(vT S w _ hH.lt hG (base S (λ_ h=>h) (.inl hm))).mono ?_;rintro e w' ⟨v,S1,nM,rfl,mq,Oh,Oc⟩
      exact wu (S':=S1) (ok:=AV.cell) (λ_ _ h=>h) ho hX (λc h=>h) (λc v J3 h1 h2=>h2.ew hX.u h1) mq hH.lt mq.s1 mq.s2 Oh.lt (λb hb h=>h) Oh hid oE
       (λid u xs hg x c hc=>hX.u.cell u x c hc) fJ Oc hd hn
    ·intro next Q hn
     unfold Oper.wp;rw[de]
     rcases Pt with⟨Xj,Zp⟩|hm
     ·have gK:tB H ρ (λb=>b<w.heap.size):=λid b l h1 h2 h3=>by
       obtain⟨l',e1,e2⟩:=hH.get _ _ h1;rw[h2]at e1;cases e1;exact(e2.lt h3).1
      obtain⟨v,hv,Oc⟩:=vT (λb=>b<w.heap.size) w _ (λ_ h=>h) (base _ hH.lt (.inr gK))
      rw[hv]
      exact wu (S':=S) (ok:=AV.re) (λ⟨c,h1,h2⟩=>by rw[h1]at h2;cases h2) ho hX (λc=>rN) (λc v J3 h1 h2=>(h2.flat (Ar h1)).ew hX.u (rN h1)) (Step.refl λ_ h=>h) hH.lt (λ_ h=>h) (λ_ h=>.inl h) hH.lt (λb hb _ hs=>by have:=hH.lt b hs;omega) (fa.nil (λ_ h=>h) _) (λid b h=>by cases h) oE
       (λid u xs hg x c hc=>by cases hg) Xj Oc hd hn
     ·obtain⟨v,hv,Oc⟩:=vT S w _ hH.lt (base S (λ_ h=>h) (.inl hm))
      rw[hv]
      exact wu (S':=S) (ok:=AV.cell) (λ_ _ h=>h) ho hX (λc h=>h) (λc v J3 h1 h2=>h2.ew hX.u h1) (Step.refl hH.lt) hH.lt (λ_ h=>h) (λ_ h=>.inl h) hH.lt (λb hb h=>h) (fa.nil hH.lt _) (λid b h=>by cases h) oE
       (λid u xs hg x c hc=>by cases hg) fJ Oc hd hn
   ·cases hv
 ·cases hv
theorem rI{k:Out U El->Option (Fin U El)}(hX:bp P X)(hv:evalOp X o t h d k=some r)(hT:mC X.E S ρ w o t a)(hH:fa X.E S ρ w B H)(hs: ∀id b,aN h id=some b->aN H id=some b)
 (hd:∀j∈dP o d,ρ j=none) (hG:X.E.G w):∃out,k out=some r/\fG P X.E S ρ w o a d out:=by
 have hlt:=hH.lt;have Q1:dP o d=[d]->ρ d=none:=λe=>hd d (by rw[e];simp)
 cases ho:o.op with
 |move x=>simp only[evalOp,ho]at hv;exact⟨_,hv,HH (.inl ho) hT hlt⟩
 |assign x=>simp only[evalOp,ho]at hv;exact⟨_,hv,HH (.inr ho) hT hlt⟩
 |pick c x y=>
  simp only[evalOp,ho]at hv;split at hv
  ·rename_i hc;exact⟨_,hv,HG (b:=true) ho hc hT hlt⟩
  ·rename_i hc;exact⟨_,hv,HG (b:=false) ho hc hT hlt⟩
  ·cases hv
 |alloc e=>
  simp only[evalOp,ho]at hv;have Un:ρ d=none:=hd d (by simp[dP,ho])
  split at hv
  ·rename_i u gM;obtain⟨h0,hv⟩:=aQ hv;exact⟨_,hv,I6 hX ho gM (aV h0) hlt Un (hd _ (by simp[dP,ho]))⟩
  ·split at hv
   ·rename_i z hz;split at hv
    ·rename_i cs pz;exact⟨_,hv,K5 hX ho hz pz hlt Un⟩
    ·cases hv
   ·cases hv
 |box e x=>
  simp only[evalOp,ho]at hv;split at hv
  ·rename_i cs pz;exact⟨_,hv,P7 ho pz hT hlt (Q1 (by simp[dP,ho]))⟩
  ·cases hv
 |build ty ps=>exact K3 hX ho hv hT hlt
 |buildSlice ty n ps=>exact Bh hX ho hv hT hlt (Q1 (by simp[dP,ho]))
 |load ty p=>
  simp only[evalOp,ho]at hv;split at hv
  ·rename_i td gM;split at hv
   ·rename_i sz ag vk;exact NL hX ho gM vk hv hT hH hs
   ·cases hv
  ·cases hv
 |nilCheck x=>
  simp only[evalOp,ho]at hv;split at hv
  ·rename_i e;exact⟨_,hv,by rw[<-e];exact p8 ho (.inl ⟨_,_,e⟩) hT hlt⟩
  ·rename_i e;exact⟨_,hv,by rw[<-e];exact p8 ho (.inr (.inl ⟨_,_,_,e⟩)) hT hlt⟩
  ·rename_i e;exact⟨_,hv,by rw[<-e];exact p8 ho (.inr (.inr (.inl ⟨_,_,_,_,e⟩))) hT hlt⟩
  ·rename_i e;exact⟨_,hv,by rw[<-e];exact p8 ho (.inr (.inr (.inr ⟨_,_,e⟩))) hT hlt⟩
  ·cases hv
 |binOp op ty x y yt=>
  simp only[evalOp,ho]at hv;obtain⟨hb,gq⟩:=aQ hv;exact K4 hX ho hb gq hT hlt
 |unOp u ty x=>
  simp only[evalOp,ho]at hv;split at hv
  ·rename_i b hx;exact⟨_,hv,HF ho (.inl ⟨b,rfl,hx,rfl⟩) hT hlt⟩
  ·rename_i kd n hx;exact⟨_,hv,HF ho (.inr ⟨kd,n,rfl,hx,rfl⟩) hT hlt⟩
  ·cases hv
 |makeMap ty rs=>
  cases rs with
  |some y=>simp only[evalOp,ho]at hv;cases hv
  |none=>
   simp only[evalOp,ho]at hv;split at hv
   ·exact⟨_,hv,F3 ho hlt (Q1 (by simp[dP,ho]))⟩
   ·cases hv
 |lookup ty m ix ok=>
  simp only[evalOp,ho]at hv;split at hv
  ·rename_i u v id gM hm;split at hv
   ·rename_i u' v' es hg;obtain⟨iu,gq⟩:=aQ hv;simp only[aj,decide_eq_true_eq]at iu;obtain⟨rfl,rfl,h3,h4⟩:=iu;split at gq
    ·rename_i x hx;exact⟨_,gq,I5 hX ho gM hm hg h3 h4 hx hT hH hs⟩
    ·cases gq
   ·cases hv
  ·rename_i u v u' v' es gM hm;obtain⟨iu,gq⟩:=aQ hv;simp only[aj,decide_eq_true_eq]at iu;obtain⟨rfl,rfl,h3,h4⟩:=iu;split at gq
   ·rename_i x hx;exact⟨_,gq,F4 hX ho gM hm h3 h4 hx hT hH⟩
   ·cases gq
  ·cases hv
 |convert s ty x=>exact F7 hX ho hv hT hlt
 |makeFunc fn aaa bs=>
  simp only[evalOp,ho]at hv;cases fn with
  |func f=>exact⟨_,hv,DQ ho hT hlt⟩
  |_=>cases hv
 |makeSlice ty n c=>exact Cp hX ho hv hT hlt (Q1 (by simp[dP,ho]))
 |slice ty x lo hi mx=>
  cases mx with
  |none=>exact K1 hX ho hv hT hH hs
  |some m=>simp only[evalOp,ho]at hv;cases hv
 |fieldAddr s p f=>
  simp only[evalOp,ho]at hv;split at hv
  ·rename_i fs sz gM;split at hv
   ·rename_i off Oq ag hf;exact Cq hX ho gM hf hv hT hlt
   ·cases hv
  ·cases hv
 |field s x f=>
  simp only[evalOp,ho]at hv;split at hv
  ·rename_i fs sz gM;split at hv
   ·rename_i off Oq ag hf;split at hv
    ·rename_i cs hx;exact K2 hX ho gM hf hx hv hT hlt
    ·cases hv
   ·cases hv
  ·cases hv
 |indexAddr ty x ix=>
  simp only[evalOp,ho]at hv;split at hv
  ·rename_i u kd i gM hix;exact Bg hX ho gM hix hv hT hH hs
  ·rename_i n es ea sz kd i gM hix;exact DT hX ho gM hix hv hT hlt
  ·cases hv
 |index ty x ix=>
  simp only[evalOp,ho]at hv;split at hv
  ·rename_i kd i gM hix;split at hv
   ·rename_i s hx;obtain⟨hb,gq⟩:=aQ hv;exact⟨_,gq,DS hX ho gM hix hx hb hT hlt⟩
   ·cases hv
  ·rename_i n es ea sz kd i gM hix;split at hv
   ·rename_i cs hx;obtain⟨hb,gq⟩:=qP hv;exact DU hX ho gM hix hx hb gq hT hlt
   ·cases hv
  ·cases hv
 |extract x i=>
  simp only[evalOp,ho]at hv;split at hv
  ·rename_i cs hx;split at hv
   ·rename_i v hi;exact⟨_,hv,F6 ho hx hi hT hlt⟩
   ·cases hv
  ·cases hv
 |call c=>
  obtain⟨callee,aaa,ts⟩:=c;cases callee with
  |value f=>exact NN hX ho hv hT hH hs (λj hj=>hd j (by simpa[dP,ho]using hj)) hG
  |invoke x m=>simp only[evalOp,ho]at hv;cases hv
  |builtin b=>
   cases b with
   |len=>
    simp only[evalOp,ho]at hv;split at hv
    ·rename_i x ty MP has hts;split at hv
     ·rename_i n hn;obtain⟨iu,gq⟩:=aQ hv;have h0:ts[0]?=some ty:=by rw[<-bO,hts];rfl
      by_cases Xf:∃id,bm t x=.mp id
      ·obtain⟨id,hx⟩:=Xf;rw[hx]at iu hn;simp only[lenOf]at hn;split at hn
       ·rename_i u v es hg;cases hn;cases gM:dS X.iH ty with
        |none=>rw[gM]at iu;cases iu
        |some td=>rw[gM]at iu;cases td<;>first|exact⟨_,gq,NM hX ho has hx hg h0 gM hT hH hs⟩|cases iu
       ·cases hn
      ·refine⟨_,gq,P6 ho has hn (λid e=>Xf ⟨id,e⟩) ⟨ty,h0,?_,?_⟩ hT hH hs⟩
       ·rintro⟨s,hx⟩
        rw[hx]at iu;cases gM:dS X.iH ty with
        |none=>rw[gM]at iu;cases iu
        |some td=>rw[gM]at iu;cases td<;>first|exact hX.td _ _ gM|cases iu
       ·intro rW;cases gM:dS X.iH ty with
        |none=>rw[gM]at iu;cases iu
        |some td=>
         rw[gM]at iu;cases td<;>cases hx:bm t x<;>rw[hx]at iu<;>first|exact⟨_,hX.td _ _ gM⟩|exact absurd (show false=true from iu) af|exact(rW ⟨_,hx⟩).elim|exact(Xf ⟨_,hx⟩).elim
     ·cases hv
    ·cases hv
   |max=>
    simp only[evalOp,ho]at hv;split at hv
    ·rename_i x y has;split at hv
     ·rename_i ka m kb n hx hy;exact⟨_,hv,by have:=BO (P:=P) (d:=d) (isMax:=true) (by simpa using ho) has hx hy hT hlt;simpa using this⟩
     ·cases hv
    ·cases hv
   |min=>
    simp only[evalOp,ho]at hv;split at hv
    ·rename_i x y has;split at hv
     ·rename_i ka m kb n hx hy;exact⟨_,hv,by have:=BO (P:=P) (d:=d) (isMax:=false) (by simpa using ho) has hx hy hT hlt;simpa using this⟩
     ·cases hv
    ·cases hv
   |_=>simp only[evalOp,ho]at hv;cases hv
 |_=>simp only[evalOp,ho]at hv;cases hv
end
end Go.Proofs.YtfmamkmmohilgaaGreatDoor
namespace Go.Proofs.YtfmamkmmohilgaaGreatDoor
open IntKind
set_option linter.all false
open Go.RowKit
section
variable{U:Type}{El:U->Type}{P:Program}{X:Ctx U El}{S S0:Nat->Prop}{ρ:eJ}{w w0:World} [DecidableEq U] [tD]
variable{o:Oper}{a:Act}{st:St U El}{B:Bd}{d:Nat}{r:Fin U El}
structure Inv (X:Ctx U El) (B:Bd) (S0:Nat->Prop) (w0:World) (S:Nat->Prop) (ρ:eJ) (st:St U El) (a:Act) (w:World):Prop where
 defers:a.defers=B.df
 size:a.tmps.size=X.nt
 below:Fr B w0 w
 hB:∀k,w.heap.size<=k->B.own k
 s0:∀b,S0 b->S b
 s1:∀b,S b->S0 b\/B.own b
 g0:∀w',Fr B w0 w'->X.E.G w'
 tmps:∀i,Rel X.E S ρ w (cC st.t i) (a.tmps.getD i undef)
 heap:fa X.E S ρ w B st.h
def bK(X:Ctx U El)(B:Bd)(S0:Nat->Prop)(w0:World)(st:St U El)(a:Act)(w:World):Prop:=∃S ρ,Inv X B S0 w0 S ρ st a w
theorem wL(id:Nat)(t:eH U El)(i:Nat):cC (yP id t) i=(cC t i).kill id:=by
 induction t with
 |nil=>rfl
 |cons p t ih=>
  obtain⟨j,v⟩:=p;simp only[yP,cC]
  cases Nat.beq j i<;>simp[ih]
theorem lz(id:Nat)(h:bI U El)(j:Nat):aN (CK h id) j=if j=id then none else aN h j:=by
 induction h with
 |nil=>simp[CK,aN]
 |cons p h ih=>
  obtain⟨i,b⟩:=p;simp only[CK]
  by_cases e:i=id
  ·subst e;rw[aG]
   simp only[cond,ih,aN]
   by_cases e2:j=i
   ·simp[e2]
   ·rw[if_neg e2,if_neg e2,aO (cq e2)]
  ·rw[aO e]
   simp only[cond,aN,ih]
   by_cases e2:i=j
   ·subst e2;rw[aG];simp[e]
   ·rw[aO e2]
theorem nW(id:Nat)(h:bI U El)(j:Nat):aN (H8 id h) j=(aN h j).map (qm.kill id):=by
 induction h with
 |nil=>rfl
 |cons p h ih=>
  obtain⟨i,b⟩:=p;simp only[H8,aN]
  cases Nat.beq i j<;>simp[ih]
theorem dt.del{l:Loc}{b:qm U El}(hX:bp P X)(hb:dt X.E S ρ w B l b)(id:Nat):dt X.E S (ρ.del id) w B l (b.kill id):=by
 cases b with
 |rows u xs=>
  obtain⟨h1,h2,h3,h4⟩:=hb;refine⟨h1,h2,h3,λhn=>?_⟩
  obtain⟨h5,h6,c,hh,h7,h8⟩:=h4 hn;exact⟨h5,h6,c,hh,h7,λi x j a hi hj=>by obtain⟨v,hv,hr⟩:=h8 i x j a hi hj;exact⟨v,hv,hr.ew hX.u (hX.u.cell u x a (aD hj))⟩⟩
 |pZ t u xs=>
  obtain⟨h0,h1,h2,h3,h4⟩:=hb;refine⟨h0,h1,h2,h3,λhn=>?_⟩
  obtain⟨h5,h6,c,hh,h7,h8⟩:=h4 hn;exact⟨h5,h6,c,hh,h7,λi x j a hi hj=>by obtain⟨v,hv,hr⟩:=h8 i x j a hi hj;exact⟨v,hv,hr.ew hX.u (hX.u.cell u x a (aD hj))⟩⟩
 |map u v es=>
  obtain⟨h1,h4,h5,c0,c1,hh,h6,h7⟩:=hb;exact⟨h1,h4,h5,c0,c1,hh,h6,λi e p hi hj=>⟨(h7 i e p hi hj).1.ew hX.u,(h7 i e p hi hj).2.ew hX.u⟩⟩
 |jC u ks cs=>
  obtain⟨h1,h4,h5,c0,c1,hh,h6,h7,h8⟩:=hb;refine⟨h1,h4,h5,c0,c1,hh,h6,by simpa using h7,λi e y c hi hj hk=>?_⟩
  simp only[bo,aJ]at hk;obtain⟨a0,xX,rfl⟩:=hk;exact⟨(h8 i e y a0 hi hj xX).1.ew hX.u,(h8 i e y a0 hi hj xX).2.kill hX.u id⟩
 |box t cs=>
  obtain⟨h0,h1,h2⟩:=hb;refine⟨h0,by simpa using h1,λhn=>?_⟩
  obtain⟨h5,h6,c,e,hh,h7,h8⟩:=h2 hn;refine⟨h5,h6,c,e,hh,h7,λj a hj=>?_⟩
  simp only[bo,aJ]at hj;obtain⟨a0,xX,rfl⟩:=hj;obtain⟨v,hv,hr⟩:=h8 j a0 xX;exact⟨v,hv,hr.kill hX.u id⟩
 |uk T j=>
  obtain⟨h1,h4,h5,c0,c1,hh,h6,h7,h8⟩:=hb;by_cases e:j=id
  ·subst e;show dt X.E S _ w B l (bif Nat.beq j j then .box 0 [.any,.any]else .uk T j)
   rw[aG]
   refine⟨.inl rfl,h1,λ_=>⟨h4,h5,#[c0,c1],T,hh,by simp[h1],λi a hi=>?_⟩⟩
   match i,hi with
   |0,hi=>cases hi;exact⟨c0,rfl,.any _⟩
   |1,hi=>cases hi;exact⟨c1,rfl,.any _⟩
  ·show dt X.E S _ w B l (bif Nat.beq j id then .box 0 [.any,.any]else .uk T j)
   rw[aO e]
   exact⟨h1,h4,h5,c0,c1,hh,h6,h7,h8.del hX.u id (by simp[AV.rC,e])⟩
theorem Inv.forget(hX:bp P X)(hi:Inv X B S0 w0 S ρ st a w)(id:Nat):Inv X B S0 w0 S (ρ.del id) (st.forget id) a w where
 defers:=hi.defers
 size:=hi.size
 below:=hi.below
 hB:=hi.hB
 s0:=hi.s0
 s1:=hi.s1
 g0:=hi.g0
 tmps:=λi=>by
  show Rel X.E S (ρ.del id) w (cC (yP id st.t) i) _;rw[wL]
  exact(hi.tmps i).kill hX.u id
 heap:=by
  have key:∀j b,aN (st.forget id).h j=some b->j≠id/\∃b0,aN st.h j=some b0/\b=b0.kill id:=λj b hg=>by
   simp only[St.forget,nW,lz,aJ]at hg;obtain⟨b0,xW,rfl⟩:=hg;split at xW
   ·cases xW
   ·rename_i e;exact⟨e,b0,xW,rfl⟩
  refine⟨λj b hg=>?_,λi j b b' l l' kY lG gn oL lV hn oK=>?_,hi.heap.lt⟩
  ·obtain⟨e,b0,xW,rfl⟩:=key j b hg;obtain⟨l,hl,hb⟩:=hi.heap.get j b0 xW;exact⟨l,by simp[eJ.del,e,hl],hb.del hX id⟩
  ·obtain⟨e1,b1,B0,_⟩:=key i b kY;obtain⟨e2,b2,vj,_⟩:=key j b' lG;exact hi.heap.inj i j b1 b2 l l' B0 vj gn (by simpa[eJ.del,e1]using oL) (by simpa[eJ.del,e2]using lV) hn oK
def eJ.Bq(ρ:eJ):ah Nat->eJ
 |[]=>ρ
 |id::ids=>(ρ.del id).Bq ids
theorem q_:∀(ids:ah Nat) (ρ:eJ) (j:Nat),(ρ j=none\/j∈ids)->ρ.Bq ids j=none:=by
 intro ids;induction ids with
 |nil=>intro ρ j h;exact h.resolve_right ae
 |cons id ids ih=>
  intro ρ j h;refine ih _ j ?_;rcases h with h|h
  ·left;simp[eJ.del,h]
  ·rcases bN.1 h with e|h
   ·left;simp[eJ.del,e]
   ·exact .inr h
theorem Inv.fD(hX:bp P X):∀(ids:ah Nat) {st:St U El} {ρ:eJ},Inv X B S0 w0 S ρ st a w->Inv X B S0 w0 S (ρ.Bq ids) (st.fD ids) a w:=by
 intro ids;induction ids with
 |nil=>intro st ρ h;exact h
 |cons id ids ih=>intro st ρ h;exact ih (h.forget hX id)
theorem mW{t:eH U El}{d:Option Nat}{v:Value}{av:AV U El}{a:Act}(hd:∀e,d=some e->e<a.tmps.size)(ht:∀i,Rel X.E S ρ w (cC t i) (a.tmps.getD i undef))(hv:Rel X.E S ρ w av v):
 ∀i,Rel X.E S ρ w (cC (match d with|some d=>(d,av)::t|none=>t) i) ((a.put d v).tmps.getD i undef):=by
 intro i;cases d with
 |none=>exact ht i
 |some e=>
  simp only[cC,Act.put]
  have he:=hd e rfl;by_cases h:e=i
  ·subst h;rw[aG]
   simp only[cond,aH,db he,eL]
   exact hv
  ·rw[aO h]
   simp only[cond,aH,eb h]
   have:=ht i;rwa [aH]at this
theorem Inv.put{S':Nat->Prop}{ρ':eJ}{w':World}{v:Value}{out:Out U El}{dst:Option Nat}(hi:Inv X B S0 w0 S ρ st a w)(hd:∀e,dst=some e->e<X.nt)(mq:Step S ρ w S' ρ' w')(hv:Rel X.E S' ρ' w' out.v v)(hN:fa X.E S' ρ' w' (From w) out.new)
 (Jt:∀id b,aN out.new id=some b->ρ id=none):Inv X B S0 w0 S' ρ' (st.put dst out) (a.put dst v) w' where
 defers:=by cases dst<;>exact hi.defers
 size:=by cases dst<;>simp[Act.put,hi.size]
 below:=hi.below.trans (mq.fr.mono hi.hB)
 hB:=λk hk=>hi.hB k (ck mq.fr.size hk)
 s0:=λb hb=>mq.s1 b (hi.s0 b hb)
 s1:=λb hb=>by
  rcases mq.s2 b hb with e|e
  ·exact hi.s1 b e
  ·exact .inr (hi.hB _ e)
 g0:=hi.g0
 tmps:=mW (λe he=>by rw[hi.size];exact hd e he) (λi=>mq.rel (hi.tmps i)) hv
 heap:=mq.heap hi.heap hN hi.hB Jt
theorem jq(h:bI U El)(id:Nat)(c:qm U El)(j:Nat):aN (iW h id c) j=if j=id then(aN h id).map (λ_=>c)else aN h j:=by
 induction h with
 |nil=>simp[iW,aN]
 |cons p h ih=>
  obtain⟨i,b⟩:=p;simp only[iW]
  by_cases e:i=id
  ·subst e;rw[aG]
   simp only[cond,aN,aG]
   by_cases e2:i=j
   ·subst e2;simp[aG]
   ·rw[aO e2,if_neg (cq e2)]
  ·rw[aO e]
   simp only[cond,aN,ih]
   by_cases e2:i=j
   ·subst e2;rw[aG];simp[e]
   ·rw[aO e2,aO e]
theorem Inv.setRow{id:Nat}{l:Loc}{b c:qm U El}{cells:Array Value}{nN:Array Value}{e:TypeId}(hi:Inv X B S0 w0 S ρ st a w)(hg:aN st.h id=some b)(hl:ρ id=some l)(hb:dt X.E S ρ w B l b)(hn:l.n≠0)(hh:w.heap[l.b]?=some (.cells nN e (0,0)))
 (hc:dt X.E S ρ (w.setRow l.b cells) B l c):Inv X B S0 w0 S ρ ⟨st.t,iW st.h id c⟩ a (w.setRow l.b cells):=by
 obtain⟨h1,h2,h3⟩:=hb.lt hn;have gT:∀k,S k->(w.setRow l.b cells).heap[k]?=w.heap[k]?:=λk hk=>setRow_other w l.b k cells (by rintro rfl;exact h3 hk)
 refine⟨hi.defers,hi.size,hi.below.trans ⟨rfl,rfl,rfl,ae,λ_=>aY _,λk hk hb=>setRow_other w l.b k cells (by rintro rfl;exact hb h2)⟩,by simpa using hi.hB,hi.s0,hi.s1,hi.g0,λi=>(hi.tmps i).mono (λ_ h=>h) gT (λ_ _ h=>h),⟨λj b' hj=>?_,λi j b1 b2 l1 l2 kY lG gn oL lV o7 pN=>?_,λk hk=>by simpa using hi.heap.lt k hk⟩⟩
 ·rw[jq]at hj;by_cases e:j=id
  ·subst e;rw[if_pos rfl,hg]at hj;cases hj;exact⟨l,hl,hc⟩
  ·rw[if_neg e]at hj;obtain⟨l',dq,pO⟩:=hi.heap.get j b' hj;refine⟨l',dq,pO.mono (λ_ h=>h) gT (λ_ _ h=>h) λoK=>⟨setRow_other w l.b _ cells ?_,(pO.lt oK).2.2⟩⟩
   exact hi.heap.inj j id b' b l' l hj hg e dq hl oK hn
 ·have k: ∀j b',aN (iW st.h id c) j=some b'-> ∃b0,aN st.h j=some b0:=λj b' h=>by
   rw[jq]at h;split at h
   ·rename_i e;subst e;exact⟨b,hg⟩
   ·exact⟨b',h⟩
  obtain⟨Rp,B0⟩:=k i b1 kY;obtain⟨PB,vj⟩:=k j b2 lG;exact hi.heap.inj i j Rp PB l1 l2 B0 vj gn oL lV o7 pN
theorem zx{c:AV U El}{v:Value}(hr:Rel X.E S ρ w c v)(h:c.one=true):v.oneCell'=true:=by cases hr<;>first|rfl|(simp[AV.one]at h;done)
theorem Nn{ty:TypeId}{td:TD U}{sz:Nat}{ag:Bool}(hk:G8 P X.E ty td)(h:xy td=some (sz,ag))(h1:ag=false->∃i,P.info? ty=some i/\i.size=1):∃i,P.info? ty=some i/\i.size=sz:=by
 cases vk:ag with
 |true=>exact(Cb hk h).2 vk
 |false=>
  obtain⟨i,hi,h2⟩:=h1 vk;subst vk;have:sz=1:=by cases td<;>simp[xy]at h<;>omega
  exact⟨i,hi,by rw[h2,this]⟩
theorem mI{α:Type}(x n y:ah α)(off:Nat)(ho:off=x.length)(j:Nat):(x++n++y)[j]?=if j<off then x[j]? else if j<off+n.length then n[j-off]? else y[j-(off+n.length)]?:=by
 subst ho;split
 ·rename_i h;rw[b_,a_ h]
 ·split
  ·rename_i h1 h2;rw[b_,br ab,a_ ab]
  ·rename_i h1 h2;rw[br (by simp;omega)]
   simp
theorem vD{ty:TypeId}{p v:Operand}{k:St U El->Option (Fin U El)}(hX:bp P X)(ho:o.op=.store ty p v)(hi:Inv X B S0 w0 S ρ st a w)
 (hv:lM X ty (bm st.t p) (bm st.t v) st k=some r) {next:Act->World->Prop} {Q:Exit->Act->World->Prop} (hd:∀e,o.dst=some e->False)
 (hn:∀bx w',(∀b,S b->w'.heap[b]?=w.heap[b]?)->Inv X B S0 w0 S ρ bx a w'->k bx=some r->next a w'):o.wp P a w next Q:=by
 have jb:o.dst=none:=by
  cases e:o.dst with
  |none=>rfl
  |some d=>exact(hd d e).elim
 have Pq:Rel X.E S ρ w (bm st.t p) (a.eval p):=Rel.bm λi _=>hi.tmps i
 have TL:Rel X.E S ρ w (bm st.t v) (a.eval v):=Rel.bm λi _=>hi.tmps i
 unfold lM at hv;split at hv
 ·rename_i td gM;split at hv
  ·rename_i sz ag ns vk rW;obtain⟨iu,gq⟩:=aQ hv;simp only[aj]at iu;obtain⟨⟨hl,hpos⟩,Og⟩:=iu;have hpos:0<sz:=aV hpos;have hl:ns.length=sz:=al hl;obtain⟨pz,Uq⟩:=kh TL rW;obtain⟨ti,_2,WI⟩:=hX.one _ _ gM;have hsz:∃i,P.info? ty=some i/\i.size=sz:=Nn (hX.td _ _ gM) vk (λe=>by
    obtain⟨⟨dd,Q1,VA⟩,_⟩:=Cb (hX.td _ _ gM) vk;exact⟨ti,_2,WI (by rw[MH Q1,VA,e])⟩)
   obtain⟨inf,En,Uf⟩:=hsz;have TV:∀x∈(a.eval v).cells.toList,x.oneCell'=true:=λx hx=>by
    obtain⟨j,hj⟩:=jg hx;have xI:(a.eval v).cells[j]?=some x:=by simpa using hj
    have mQ:j<ns.length:=by rw[<-pz];exact(aX.1 xI).1
    exact zx (Uq j _ x (az mQ) xI) (by simp at Og;exact Og _ (bW mQ))
   have de:∀(b off:Nat) (cur:Array Value) (e:TypeId),a.eval p=.pointer (some ⟨b,off,none⟩)->w.heap[b]?=some (.cells cur e (0,0))->off+ns.length<=cur.size->
    (execOp a.eval o).run P w=.ok .skip (w.setRow b (cur.toList.take off++(a.eval v).cells.toList++cur.toList.drop (off+ns.length)).toArray):=λb off cur e he hh hle=>by
    have mq:=run_storeCells_at P b off e (a.eval v).cells.toList 0 cur w hh (by simp[pz];omega) TV;simp only[gg,cW,pz]at mq;simp[execOp,ho,Instr.storeAt,Instr.sureAddr,he,storeVar,kT En,Uf,pz,hl]
    rw[mq]
    simp[hl]
   have Zy:∀{b off:Nat} {cur:Array Value} {e:TypeId} {bx:St U El},a.eval p=.pointer (some ⟨b,off,none⟩)->w.heap[b]?=some (.cells cur e (0,0))->off+ns.length<=cur.size->¬S b->k bx=some r->
    Inv X B S0 w0 S ρ bx a (w.setRow b (cur.toList.take off++(a.eval v).cells.toList++cur.toList.drop (off+ns.length)).toArray)->o.wp P a w next Q:=by
    intro b off cur e bx he hh hle π hk hinv;unfold Oper.wp;rw[de b off cur e he hh hle]
    show next (a.put o.dst undef) _
    rw[jb]
    exact hn bx _ (λk hk=>setRow_other w b k _ (by rintro rfl;exact π hk)) hinv hk
   split at gq
   ·rename_i id off WX;split at gq
    ·rename_i tg cs hg;obtain⟨hb,hk⟩:=aQ gq;have hle:off+sz<=cs.length:=aV hb;obtain⟨l,LG,iV⟩:=hi.heap.get _ _ hg;have Oj:=iV;obtain⟨b0,b1,b2⟩:=iV;by_cases hn0:l.n=0
     ·exfalso;omega
     ·obtain⟨b3,b4,cur,e,hh,b5,b6⟩:=b2 hn0;rw[WX]at Pq;generalize hq:a.eval p=q at Pq;cases Pq with
      |ptr _ _ l' dq=>
       rw[LG]at dq;cases dq;refine Zy hq hh ab b4 hk (hi.setRow hg LG Oj hn0 hh ?_)
       have hlen:(cs.take off++ns++cs.drop (off+sz)).length=cs.length:=by simp;omega
       have gT:∀k,S k->(w.setRow l.b (cur.toList.take off++(a.eval v).cells.toList++cur.toList.drop (off+ns.length)).toArray).heap[k]?=w.heap[k]?:=λk hk=>setRow_other w l.b k _ (by rintro rfl;exact b4 hk)
       refine⟨b0,by rw[hlen];exact b1,λ_=>⟨b3,b4,_,e,setRow_heap w l.b cur _ e _ hh,by simp[pz];omega,λj c hj=>?_⟩⟩
       rw[mI _ _ _ off (by simp;omega)]at hj;simp only[cZ]
       rw[mI _ _ _ off (by simp;omega)]
       simp only[cW,pz]
       split at hj
       ·rename_i h1;rw[if_pos h1]
        rw[cd h1]at hj⊢;obtain⟨x,hx,CH⟩:=b6 j c hj;exact⟨x,by simpa using hx,CH.mono (λ_ h=>h) gT (λ_ _ h=>h)⟩
       ·rename_i h1;rw[if_neg h1]
        split at hj
        ·rename_i h2;rw[if_pos h2]
         have mQ:j-off<(a.eval v).cells.size:=ab
         refine⟨(a.eval v).cells[j-off],by simp[mQ],?_⟩
         exact(Uq _ c _ hj (aC mQ)).mono (λ_ h=>h) gT (λ_ _ h=>h)
        ·rename_i h2;rw[if_neg h2]
         rw[cg]at hj⊢;obtain⟨x,hx,CH⟩:=b6 _ c hj;refine⟨x,?_,CH.mono (λ_ h=>h) gT (λ_ _ h=>h)⟩
         rw[<-hx,hl]
         simp
    ·cases gq
   ·rename_i id i off WX
    have rc: ∀(u:U) (xs:ah (El u)) (cc:ah (El u)->qm U El),aN st.h id=some (cc xs)->(∀l,dt X.E S ρ w B l (cc xs)->dt X.E S ρ w B l (.rows u xs)/\ ∀w' ys,dt X.E S ρ w' B l (.rows u ys)->dt X.E S ρ w' B l (cc ys))->
     aU (lU i xs.length&&Nat.ble (off+sz) (X.E.sz u)) (match X.E.dec u ((X.E.enc u (xs.getD i (X.E.iL u))).take off++ns++(X.E.enc u (xs.getD i (X.E.iL u))).drop (off+sz))with
      |some y=>k ⟨st.t,iW st.h id (cc (xs.set i y))⟩
      |none=>none)=some r->o.wp P a w next Q:=by
     clear gq;intro u xs cc hg VB gq;obtain⟨hb,Jw⟩:=aQ gq;simp only[aj]at hb;obtain⟨Uu,hbo⟩:=hb;have rX:i<xs.length:=by simpa[lU]using Uu
     have hle:off+sz<=X.E.sz u:=aV hbo;split at Jw
     ·rename_i y hy;obtain⟨l,LG,iV⟩:=hi.heap.get _ _ hg;have Oj:=iV;obtain⟨c1,c2,c3,c4⟩:=(VB l iV).1;have hp:=hX.u.pos u;have hn0:l.n≠0:=by have:=fP (show 0<xs.length by omega) hp;omega
      obtain⟨b3,b4,cur,hh,b5,b6⟩:=c4 hn0;have Ef:(i+1)*X.E.sz u<=xs.length*X.E.sz u:=bu _ rX;rw[cY,hU]at Ef;rw[WX]at Pq;generalize hq:a.eval p=q at Pq;cases Pq with
      |row _ _ _ l' dq=>
       rw[LG]at dq;cases dq;rw[c1]at hq;refine Zy hq hh ab b4 Jw (hi.setRow hg LG Oj hn0 hh ?_)
       have gT:∀k,S k->(w.setRow l.b (cur.toList.take (i*X.E.sz u+off)++(a.eval v).cells.toList++cur.toList.drop (i*X.E.sz u+off+ns.length)).toArray).heap[k]?=w.heap[k]?:=λk hk=>setRow_other w l.b k _ (by rintro rfl;exact b4 hk)
       refine(VB l Oj).2 _ _ ⟨c1,by simpa using c2,by simpa using c3,λ_=>⟨b3,b4,_,setRow_heap w l.b cur _ _ _ hh,by simp[pz];omega,λi' x j c hix uf=>?_⟩⟩
       have mQ:j<X.E.sz u:=by rw[<-hX.u.len u x];exact(ak.1 uf).1
       simp only[cZ]
       rw[mI _ _ _ (i*X.E.sz u+off) (by simp;omega)]
       simp only[cW,pz]
       by_cases he:i'=i
       ·subst he;rw[fm rX]at hix;cases hix;obtain⟨d1,d2⟩:=hX.u.dec _ _ _ hy;obtain⟨c',wE,lS⟩:=d2 j c uf;have Lq:xs[i']?=some (xs.getD i' (X.E.iL u)):=by simp[List.getD,az rX]
        have QZ:=hX.u.len u (xs.getD i' (X.E.iL u))
        have final:∀vv,Rel X.E S ρ w c' vv->Rel X.E S ρ (w.setRow l.b (cur.toList.take (i'*X.E.sz u+off)++(a.eval v).cells.toList++cur.toList.drop (i'*X.E.sz u+off+ns.length)).toArray) c vv:=λvv hr=>by
         rcases lS with rfl|⟨rfl,u',rfl⟩
         ·exact hr.mono (λ_ h=>h) gT (λ_ _ h=>h)
         ·cases hr;exact .jy u' _ _
        rw[mI _ _ _ off (by rw[bV,QZ];omega)]at wE;split at wE
        ·rename_i h1;rw[if_pos ab]
         rw[cd h1]at wE;obtain⟨x,hx,CH⟩:=b6 i' _ j c' Lq wE;exact⟨x,by rw[cd ab];simpa using hx,final x CH⟩
        ·rename_i h1;rw[if_neg ab]
         split at wE
         ·rename_i h2;rw[if_pos ab]
          have Uc:j-off<(a.eval v).cells.size:=ab
          refine⟨(a.eval v).cells[j-off],?_,final _ (Uq _ c' _ wE (aC Uc))⟩
          rw[show i'*X.E.sz u+j-(i'*X.E.sz u+off)=j-off by omega]
          simp[Uc]
         ·rename_i h2;rw[if_neg ab]
          rw[cg]at wE;obtain⟨x,hx,CH⟩:=b6 i' _ _ c' Lq wE;refine⟨x,?_,final x CH⟩
          rw[cg,<-hx]
          simp;congr 1;omega
       ·rw[gv (cq he)]at hix;obtain⟨x',Bk,CH⟩:=b6 i' x j c hix uf;refine⟨x',?_,CH.mono (λ_ h=>h) gT (λ_ _ h=>h)⟩
        rcases Nat.lt_or_gt_of_ne he with h1|h1
        ·have h2:(i'+1)*X.E.sz u<=i*X.E.sz u:=bu _ h1;rw[cY,hU]at h2;rw[if_pos ab,cd ab]
         simpa using Bk
        ·have h2:(i+1)*X.E.sz u<=i'*X.E.sz u:=bu _ h1;rw[cY,hU]at h2;rw[if_neg ab,if_neg ab,cg,<-Bk]
         simp;congr 1;omega
     ·cases Jw
    split at gq
    ·rename_i u xs hg;exact rc u xs (λys=>.rows u ys) hg (λl h=>⟨h,λ_ _ h=>h⟩) gq
    ·rename_i t u xs hg;exact rc u xs (λys=>.pZ t u ys) hg (λl h=>⟨h.2,λ_ _ k=>⟨h.1,k⟩⟩) gq
    ·cases gq
   ·cases gq
  ·cases hv
 ·cases hv
theorem AY{ty:TypeId}{p v:Operand}{k:St U El->Option (Fin U El)}(hX:bp P X)(ho:o.op=.store ty p v)(hi:Inv X B S0 w0 S ρ st a w)
 (hv:lM X ty (bm st.t p) (bm st.t v) st k=some r) {next:Act->World->Prop} {Q:Exit->Act->World->Prop} (hd:∀e,o.dst=some e->False)
 (hn:∀bx a' w',bK X B S0 w0 bx a' w'->k bx=some r->next a' w'):o.wp P a w next Q:=
 vD hX ho hi hv hd λbx w' _ hinv hk=>hn bx a w' ⟨S,ρ,hinv⟩ hk
theorem Ds{ty:TypeId}{p v:AV U El}{id:Nat}{k:St U El->Option (Fin U El)}(JZ:names id p=true)(hv:lM X ty p v st k=some r):
 ∃b nN,aN st.h id=some nN/\k ⟨st.t,iW st.h id b⟩=some r/\∀(aA:St U El) (k2:St U El->Option (Fin U El)),aN aA.h id=some nN->lM X ty p v aA k2=k2 ⟨aA.t,iW aA.h id b⟩:=by
 unfold lM at hv;split at hv
 ·rename_i td gM;split at hv
  ·rename_i sz ag ns vk rW;obtain⟨iu,gq⟩:=aQ hv;split at gq
   ·rename_i j off;obtain rfl:=al (show Nat.beq j id=true from JZ)
    split at gq
    ·rename_i tg cs hg;obtain⟨hb,hk⟩:=aQ gq;refine⟨_,_,hg,hk,λaA k2 h2=>?_⟩
     unfold lM;rw[gM]
     simp only[vk,rW,iu,h2,hb,aU,cond_true]
    ·cases gq
   ·rename_i j i off;obtain rfl:=al (show Nat.beq j id=true from JZ)
    split at gq
    ·rename_i u xs hg;obtain⟨hb,Jw⟩:=aQ gq;split at Jw
     ·rename_i y hy;refine⟨_,_,hg,Jw,λaA k2 h2=>?_⟩
      unfold lM;rw[gM]
      simp only[vk,rW,iu,h2,hb,hy,aU,cond_true]
     ·cases Jw
    ·rename_i t u xs hg;obtain⟨hb,Jw⟩:=aQ gq;split at Jw
     ·rename_i y hy;refine⟨_,_,hg,Jw,λaA k2 h2=>?_⟩
      unfold lM;rw[gM]
      simp only[vk,rW,iu,h2,hb,hy,aU,cond_true]
     ·cases Jw
    ·cases gq
   ·cases gq
  ·cases hv
 ·cases hv
theorem Inv.PQ{id:Nat}{l:Loc}{u v:U}{es VP:ah (El u×El v)}{eQ iY:Array MapEntry}{clock clock':Nat}(hi:Inv X B S0 w0 S ρ st a w)(hg:aN st.h id=some (.map u v es))(hl:ρ id=some l)(hh:w.heap[l.b]?=some (.map eQ clock))
 (hsz:iY.size=VP.length) (oG:∀(i:Nat) (e:MapEntry) (p:El u×El v),iY[i]?=some e->VP[i]?=some p->gz X.E S ρ w u p.1 e.key/\gz X.E S ρ w v p.2 e.val):
 (∀b,S b->({w with heap:=w.heap.setIfInBounds l.b (.map iY clock')}:World).heap[b]?=w.heap[b]?)/\Inv X B S0 w0 S ρ ⟨st.t,iW st.h id (.map u v VP)⟩ a {w with heap:=w.heap.setIfInBounds l.b (.map iY clock')}:=by
 obtain⟨l',dq,hb⟩:=hi.heap.get _ _ hg;rw[hl]at dq;cases dq;have hn:l.n≠0:=by have:=hb.1;omega
 obtain⟨h1,h2,h3⟩:=hb.lt hn;have Gn:∀k,k≠l.b->({w with heap:=w.heap.setIfInBounds l.b (.map iY clock')}:World).heap[k]?=w.heap[k]?:=λk hk=>by simp[cq hk]
 have gT:∀k,S k->({w with heap:=w.heap.setIfInBounds l.b (.map iY clock')}:World).heap[k]?=w.heap[k]?:=λk hk=>Gn k (by rintro rfl;exact h3 hk)
 refine⟨gT,hi.defers,hi.size,hi.below.trans ⟨rfl,rfl,rfl,ae,λ_=>aY _,λk hk hb=>Gn k (by rintro rfl;exact hb h2)⟩,by simpa using hi.hB,hi.s0,hi.s1,hi.g0,λi=>(hi.tmps i).mono (λ_ h=>h) gT (λ_ _ h=>h),⟨λj b' hj=>?_,λi j b1 b2 l1 l2 kY lG gn oL lV o7 pN=>?_,λk hk=>by simpa using hi.heap.lt k hk⟩⟩
 ·rw[jq]at hj;by_cases e:j=id
  ·subst e;rw[if_pos rfl,hg]at hj;cases hj;exact⟨l,hl,hb.1,h2,h3,iY,clock',by simp[h1],hsz,λi e p ku hp=>⟨(oG i e p ku hp).1.mono (λ_ h=>h) gT (λ_ _ h=>h),(oG i e p ku hp).2.mono (λ_ h=>h) gT (λ_ _ h=>h)⟩⟩
  ·rw[if_neg e]at hj;obtain⟨l',dq,pO⟩:=hi.heap.get j b' hj;refine⟨l',dq,pO.mono (λ_ h=>h) gT (λ_ _ h=>h) λoK=>⟨Gn _ ?_,(pO.lt oK).2.2⟩⟩
   exact hi.heap.inj j id b' _ l' l hj hg e dq hl oK hn
 ·have k: ∀j b',aN (iW st.h id (.map u v VP)) j=some b'-> ∃b0,aN st.h j=some b0:=λj b' h=>by
   rw[jq]at h;split at h
   ·rename_i e;subst e;exact⟨_,hg⟩
   ·exact⟨b',h⟩
  obtain⟨Rp,B0⟩:=k i b1 kY;obtain⟨PB,vj⟩:=k j b2 lG;exact hi.heap.inj i j Rp PB l1 l2 B0 vj gn oL lV o7 pN
theorem sW{ty:TypeId}{m ix x:Operand}{k:St U El->Option (Fin U El)}(hX:bp P X)(ho:o.op=.mapUpdate ty m ix x\/o.op=.insert ty m ix x)(hi:Inv X B S0 w0 S ρ st a w)
 (hv:px X ty (bm st.t m) (bm st.t ix) (bm st.t x) st k=some r) {next:Act->World->Prop} {Q:Exit->Act->World->Prop} (jb:o.dst=none)
 (hn:∀bx w',(∀b,S b->w'.heap[b]?=w.heap[b]?)->Inv X B S0 w0 S ρ bx a w'->k bx=some r->next a w'):o.wp P a w next Q:=by
 have QQ:Rel X.E S ρ w (bm st.t m) (a.eval m):=Rel.bm λi _=>hi.tmps i
 have Ue:Rel X.E S ρ w (bm st.t ix) (a.eval ix):=Rel.bm λi _=>hi.tmps i
 have CF:Rel X.E S ρ w (bm st.t x) (a.eval x):=Rel.bm λi _=>hi.tmps i
 have hex:(execOp a.eval o)=(do Instr.mapUpdate ty (a.eval m) (a.eval ix) (a.eval x);pure .skip):=by rcases ho with ho|ho<;>simp[execOp,ho]
 unfold px at hv;split at hv
 ·rename_i u v id gM hm;split at hv
  ·rename_i u' v' es hg;obtain⟨iu,gq⟩:=aQ hv;simp only[aj,decide_eq_true_eq]at iu;obtain⟨rfl,rfl,h3,h4⟩:=iu;split at gq
   ·rename_i y z hy hz;obtain⟨l,eQ,clock,hl,hq,_,_,_,hh,hsz,oG⟩:=Gd (t:=st.t) (m:=m) QQ hm hi.heap hg;have nI:=ra hX.u hy Ue;have sd:=ra hX.u hz CF;have K:=hX.u.key _ h3;have hu:P.underlying ty=some (.map (X.E.tid u') (X.E.tid v')):=hX.td _ _ gM;have fin:∀{iY:Array MapEntry} {clock':Nat},(Instr.mapUpdate ty (a.eval m) (a.eval ix) (a.eval x)).run P w=.ok () {w with heap:=w.heap.setIfInBounds l.b (.map iY clock')}->iY.size=(qu (X.E.nu u') es y z).length->
     (∀(i:Nat) (e:MapEntry) (p:El u'×El v'),iY[i]?=some e->(qu (X.E.nu u') es y z)[i]?=some p->gz X.E S ρ w u' p.1 e.key/\gz X.E S ρ w v' p.2 e.val)->o.wp P a w next Q:=by
     intro iY clock' de Lr LN;obtain⟨g1,g2⟩:=hi.PQ (clock':=clock') hg hl hh Lr LN;unfold Oper.wp;rw[hex]
     simp only[Sem.run_bind,de,Result.andThen_ok,Sem.run_pure]
     show next (a.put o.dst undef) _
     rw[jb]
     exact hn _ _ g1 g2 gq
    rcases Al K hsz oG nI with⟨hf,Xi⟩|⟨j,e,p,hf,Ej,he,hp,Xo,WT,QM⟩
    ·have hp:qu (X.E.nu u') es y z=es++[(y,z)]:=by rw[D6,Xi]
     refine fin (iY:=eQ.push {key:=a.eval ix,val:=a.eval x,born:=clock}) (clock':=clock+1) ?_ (by rw[hp];simp[hsz]) (λi e p he vV=>?_)
     ·simp[Instr.mapUpdate,run_underlying hu,hq,MapKept.run_getObj_map hh,K.check _ nI,hf,MapKept.run_setObj_map _ hh]
     ·rw[hp]at vV;rw[dZ]at he;by_cases ku:i=eQ.size
      ·rw[if_pos ku]at he;rw[ku,hsz,br (aY _)]at vV;simp at vV he;subst vV he;exact⟨nI,sd⟩
      ·rw[if_neg ku]at he;have hlt:i<es.length:=by rw[<-hsz];exact(aX.1 he).1
       rw[a_ hlt]at vV;exact oG i e p he vV
    ·have Zj:qu (X.E.nu u') es y z=es.set j (y,z):=by rw[D6,Ej]
     have mQ:j<eQ.size:=(aX.1 he).1;refine fin (iY:=eQ.modify j λe=>{e with key:=a.eval ix,val:=a.eval x}) (clock':=clock) ?_ (by rw[Zj];simp[hsz]) (λi e' p' BZ vV=>?_)
     ·simp[Instr.mapUpdate,run_underlying hu,hq,MapKept.run_getObj_map hh,K.check _ nI,hf,he,K.stays nI WT Xo,MapKept.run_setObj_map _ hh]
     ·rw[Zj]at vV;rw[Array.getElem?_modify]at BZ;by_cases H9:j=i
      ·subst H9;rw[if_pos rfl,he]at BZ;rw[fm (by rw[<-hsz];exact mQ)]at vV;cases vV;cases BZ;exact⟨nI,sd⟩
      ·rw[if_neg H9]at BZ;rw[gv H9]at vV;exact oG i e' p' BZ vV
   ·cases gq
  ·cases hv
 ·cases hv
theorem Gc{ty:TypeId}{m ix x:AV U El}{id:Nat}{k:St U El->Option (Fin U El)}(JZ:names id m=true)(hv:px X ty m ix x st k=some r):
 ∃b nN,aN st.h id=some nN/\k ⟨st.t,iW st.h id b⟩=some r/\∀(aA:St U El) (k2:St U El->Option (Fin U El)),aN aA.h id=some nN->px X ty m ix x aA k2=k2 ⟨aA.t,iW aA.h id b⟩:=by
 unfold px at hv;split at hv
 ·rename_i u v j gM;obtain rfl:=al (show Nat.beq j id=true from JZ)
  split at hv
  ·rename_i u' v' es hg;obtain⟨iu,gq⟩:=aQ hv;split at gq
   ·rename_i y z hy hz;refine⟨_,_,hg,gq,λaA k2 h2=>?_⟩
    unfold px;rw[gM]
    simp only[h2,iu,hy,hz,aU,cond_true]
   ·cases gq
  ·cases hv
 ·cases hv
end
end Go.Proofs.YtfmamkmmohilgaaGreatDoor
namespace Go.Proofs.YtfmamkmmohilgaaGreatDoor
open IntKind
set_option linter.all false
open Go.RowKit Go.Lib
section
variable{U:Type}{El:U->Type}{P:Program}{X:Ctx U El}{S S0:Nat->Prop}{ρ:eJ}{w w0:World} [DecidableEq U] [tD]
variable{o:Oper}{a:Act}{st:St U El}{B:Bd}{d:Nat}{r:Fin U El}
theorem ES{c:AV U El}(h:c.cell=true):c.one=true:=by cases c<;>first|rfl|(simp[AV.cell]at h;done)
def Fc(E:fZ U El)(S:Nat->Prop)(ρ:eJ)(w:World)(u:U)(ys:ah (El u))(ad:Addr):Prop:=∀(i:Nat) y (j:Nat) c,ys[i]?=some y->(E.enc u y)[j]?=some c->∃v,w.cell? (ad.add (i*E.sz u+j))=some v/\Rel E S ρ w c v
theorem zh{h:bI U El}{u:U}{x:AV U El}{v:Value}{ys:ah (El u)}(hX:bp P X)(hH:fa X.E S ρ w B h)(hr:Rel X.E S ρ w x v)(hy:rowsOf h u x=some ys):
 ∃ao cap,v=.slice ao ys.length cap/\(ys≠[]->∃ad,ao=some ad/\Fc X.E S ρ w u ys ad):=by
 unfold rowsOf at hy;split at hy
 ·cases hy;cases hr;exact⟨none,0,rfl,λh=>absurd rfl h⟩
 ·rename_i u' xs;split at hy
  ·rename_i e;subst e;cases hy;cases hr with
   |jy=>exact⟨_,_,rfl,λh=>absurd rfl h⟩
   |au _ _ b off cap val hS hc hcell hrel=>
    refine⟨_,cap,rfl,λ_=>⟨_,rfl,λi y j c hi hj=>⟨_,?_,hrel i y j c hi hj⟩⟩⟩
    rw[gV,<-fb]
    exact hcell i y j c hi hj
  ·cases hy
 ·rename_i id;split at hy
  ·rename_i u' xs hg;split at hy
   ·rename_i e;subst e;cases hy;obtain⟨l,hl,h1,h2,h3,h4⟩:=hH.get _ _ hg;cases hr with
    |cf _ cap l' dq e1 e2=>
     rw[hl]at dq;cases dq;refine⟨_,cap,by rw[<-h2],λgn=>⟨_,rfl,λi y j c hi hj=>?_⟩⟩
     have hp:=hX.u.pos u';have hn:l.n≠0:=by
      have:0<xs.length:=List.length_pos_iff.2 gn;have:=fP this hp;omega
     obtain⟨_,_,cc,hh,h5,h6⟩:=h4 hn;obtain⟨vv,hv,Ed⟩:=h6 i y j c hi hj;exact⟨vv,by rw[gV,bZ,cell_of_row w l.b _ cc _ (0,0) hh];exact hv,Ed⟩
    |j7 _ l' dq e1 e2=>
     rw[hl]at dq;cases dq;have:xs=[]:=bq ab
     subst this;exact⟨none,0,rfl,λh=>absurd rfl h⟩
   ·cases hy
  ·cases hy
 ·rename_i id lo len;split at hy
  ·rename_i u' xs hg;split at hy
   ·rename_i e;subst e;cases hy;obtain⟨l,hl,h1,h2,h3,h4⟩:=hH.get _ _ hg;cases hr with
    |nH _ _ ao cap=>exact⟨ao,cap,ae,λh=>absurd ae h⟩
    |own _ _ _ cap l' dq e1 e2 e3=>
     rw[hl]at dq;cases dq;have hlen:((xs.drop lo).take len).length=len:=by simp;omega
     refine⟨some ⟨l.b,lo*l.s,none⟩,cap,by simp only[hlen],λgn=>⟨_,rfl,λi y j c hi hj=>?_⟩⟩
     have ku:xs[lo+i]?=some y:=by
      simp only at hi;rw[fQ]at hi;split at hi
      ·rw[cg]at hi;exact hi
      ·cases hi
     have hp:=hX.u.pos u';have hn:l.n≠0:=by
      have:0<xs.length:=by have:=(ak.1 ku).1;omega
      have:=fP this hp;omega
     obtain⟨_,_,cc,hh,h5,h6⟩:=h4 hn;obtain⟨vv,hv,Ed⟩:=h6 _ y j c ku hj;exact⟨vv,by rw[gV,h1,<-fb,<-cY,cell_of_row w l.b _ cc _ (0,0) hh];exact hv,Ed⟩
   ·cases hy
  ·cases hy
 ·cases hy
theorem uF{u:U}{ys:ah (El u)}{ad:Addr}(hX:bp P X)(hs:Fc X.E S ρ w u ys ad):
 ∃news:ah Value,news.length=ys.length*X.E.sz u/\(∀(j:Nat) x,news[j]?=some x->w.cell? (ad.add j)=some x)/\(∀x∈news,x.oneCell'=true)/\
  ∀(i:Nat) y (j:Nat) c,ys[i]?=some y->(X.E.enc u y)[j]?=some c->∃v,news[i*X.E.sz u+j]?=some v/\Rel X.E S ρ w c v:=by
 have hp:=hX.u.pos u;have key:∀n,n<ys.length*X.E.sz u->∃c v,w.cell? (ad.add n)=some v/\Rel X.E S ρ w c v/\c.cell=true:=λn hn=>by
  have hi:n/X.E.sz u<ys.length:=(Nat.div_lt_iff_lt_mul hp).2 hn;have hj:n%X.E.sz u<(X.E.enc u ys[n/X.E.sz u]).length:=by rw[hX.u.len];exact Nat.mod_lt _ hp
  obtain⟨v,hv,hr⟩:=hs _ _ _ _ (az hi) (az hj)
  rw[je,Nat.div_add_mod]at hv;exact⟨_,v,hv,hr,hX.u.cell u _ _ (bW hj)⟩
 refine⟨(List.range (ys.length*X.E.sz u)).map λn=>(w.cell? (ad.add n)).getD undef,ae,λj x hj=>?_,λx hx=>?_,λi y j c hi hj=>?_⟩
 ·have mQ:j<ys.length*X.E.sz u:=by have:=(ak.1 hj).1;simpa using this
  obtain⟨c,v,hv,_⟩:=key j mQ;simp[mQ,hv]at hj;rw[hv,hj]
 ·obtain⟨n,hn,rfl⟩:=eT.1 hx;obtain⟨c,v,hv,hr,hc⟩:=key n (by simpa using hn)
  rw[hv]
  exact zx hr (ES hc)
 ·obtain⟨v,hv,hr⟩:=hs i y j c hi hj;have rX:i<ys.length:=(ak.1 hi).1;have mQ:j<X.E.sz u:=by rw[<-hX.u.len u y];exact(ak.1 hj).1
  have hlt:i*X.E.sz u+j<ys.length*X.E.sz u:=by
   have:(i+1)*X.E.sz u<=ys.length*X.E.sz u:=bu _ rX;rw[cY,hU]at this;omega
  exact⟨v,by simp[hlt,hv],hr⟩
structure AF (X:Ctx U El) (S:Nat->Prop) (ρ:eJ) (B:Bd) (w:World) (u:U) (zs:List (El u)) (nN:Option Nat) (v':Value) (w':World) (l':Loc):Prop where
 os:w'.os=w.os
 tape:w'.tape=w.tape
 output:w'.output=w.output
 size:w.heap.size<=w'.heap.size
 drawn:tD.on->w.drawn<=w'.drawn
 block:∀k,k<w.heap.size->some k≠nN->w'.heap[k]?=w.heap[k]?
 at_:l'.n≠0->some l'.b=nN\/w.heap.size<=l'.b
 blk:∀ρ',dt X.E S ρ' w' B l' (.rows u zs)
 val:(∃cap,v'=.slice (some ⟨l'.b,0,none⟩) l'.ln cap/\cap*l'.s<=l'.n/\l'.ln<=cap)\/(v'=.slice none 0 0/\l'.n=0/\l'.ln=0)
theorem DC{u:U}{xs ys:ah (El u)}{vx vy:ah Value}{c:Array Value}{w':World}{ρ':eJ}(hX:bp P X)(hS:∀k,S k->w'.heap[k]?=w.heap[k]?)(Ju:vx.length=xs.length*X.E.sz u)
 (hx:∀(i:Nat) y (j:Nat) c,xs[i]?=some y->(X.E.enc u y)[j]?=some c->∃v,vx[i*X.E.sz u+j]?=some v/\Rel X.E S ρ w c v)
 (hy:∀(i:Nat) y (j:Nat) c,ys[i]?=some y->(X.E.enc u y)[j]?=some c->∃v,vy[i*X.E.sz u+j]?=some v/\Rel X.E S ρ w c v)
 (hc:∀(j:Nat) v,(vx++vy)[j]?=some v->c[j]?=some v):
 ∀(i:Nat) y (j:Nat) e,(xs++ys)[i]?=some y->(X.E.enc u y)[j]?=some e->∃v,c[i*X.E.sz u+j]?=some v/\Rel X.E S ρ' w' e v:=by
 intro i y j e hi hj;have fin:∀v,Rel X.E S ρ w e v->Rel X.E S ρ' w' e v:=λv h=>(h.mono (ρ':=ρ) (λ_ h=>h) hS (λ_ _ h=>h)).ew hX.u (hX.u.cell u y e (aD hj))
 have mQ:j<X.E.sz u:=by rw[<-hX.u.len u y];exact(ak.1 hj).1
 by_cases h:i<xs.length
 ·rw[a_ h]at hi;obtain⟨v,hv,hr⟩:=hx i y j e hi hj;exact⟨v,hc _ v (by rw[a_ ((ak.1 hv).1)];exact hv),fin v hr⟩
 ·rw[br ab]at hi;obtain⟨v,hv,hr⟩:=hy _ y j e hi hj;have e1:i*X.E.sz u=xs.length*X.E.sz u+(i-xs.length)*X.E.sz u:=by rw[<-cY];congr 1;omega
  refine⟨v,hc _ v ?_,fin v hr⟩
  rw[br ab,<-hv]
  congr 1;omega
theorem Ax{ty:TypeId}{u:U}{xs ys:ah (El u)}{sv xv:Value}{ot:TypeId}{nN:Option Nat}{ao:Option Addr}{cp:Nat}(hX:bp P X)(hB: ∀k,w.heap.size<=k->B.own k)(hlt: ∀b,S b->b<w.heap.size)(hu:P.underlying ty=some (.slice (X.E.tid u)))
 (hs:(sv=.slice none 0 0/\xs=[]/\nN=none)\/∃l cap,sv=.slice (some ⟨l.b,0,none⟩) xs.length cap/\nN=(if l.n=0 then none else some l.b)/\cap*X.E.sz u<=l.n/\xs.length<=cap/\dt X.E S ρ w B l (.rows u xs))
 (MU:xv=.slice ao ys.length cp) (uw:ys≠[]->∃ad,ao=some ad/\Fc X.E S ρ w u ys ad)
 (hb:(xs.length+ys.length)*X.E.AR u<=140737488355328) (hm:xs.length+ys.length<=9223372036854775807):
 ∃v' w' l',(Builtin.append_ #[ty,ty] ot #[sv,xv]).run P w=.ok v' w'/\AF X S ρ B w u (xs++ys) nN v' w' l':=by
 obtain⟨ie,z,hi,hsz,AQ,hz,yq,_⟩:=hX.u.info u;have hp:=hX.u.pos u;subst MU;by_cases Wy:ys=[]
 ·subst Wy;rw[cU]
  rcases hs with⟨rfl,rfl,rfl⟩|⟨l,cap,rfl,rfl,si,hle,uT⟩
  ·refine⟨.slice none 0 0,w,⟨0,0,X.E.sz u,0⟩,?_,rfl,rfl,rfl,aY _,λ_=>aY _,λ_ _ _=>rfl,λh=>absurd rfl h,λρ'=>⟨rfl,rfl,ae,λh=>absurd rfl h⟩,.inr ⟨rfl,rfl,rfl⟩⟩
   cases ao<;>simp[Builtin.append_,run_underlying hu,sizeOf,typeInfo,hi,Builtin.lenOf,Builtin.firstCells,loadCells,loadCellsFrom]
  ·refine⟨.slice (some ⟨l.b,0,none⟩) xs.length cap,w,l,?_,rfl,rfl,rfl,aY _,λ_=>aY _,λ_ _ _=>rfl,λhn=>.inl (by rw[if_neg hn]),λρ'=>?_,.inl ⟨cap,by rw[uT.2.1],by rw[uT.1];exact si,by rw[uT.2.1];exact hle⟩⟩
   ·cases ao<;>simp[Builtin.append_,run_underlying hu,sizeOf,typeInfo,hi,Builtin.lenOf,Builtin.firstCells,loadCells,loadCellsFrom,hle,storeCells]
   ·obtain⟨h1,h2,h3,h4⟩:=uT;refine⟨h1,h2,h3,λhn=>?_⟩
    obtain⟨h5,h6,c,hh,h7,h8⟩:=h4 hn;exact⟨h5,h6,c,hh,h7,λi x j a hi hj=>by obtain⟨v,hv,hr⟩:=h8 i x j a hi hj;exact⟨v,hv,hr.ew hX.u (hX.u.cell u x a (aD hj))⟩⟩
 ·obtain⟨ad,rfl,Lt⟩:=uw Wy;obtain⟨news,QP,TY,o7,Ps⟩:=uF hX Lt;have _Q:0<ys.length:=List.length_pos_iff.2 Wy;have rW:¬S w.heap.size:=λh=>by have:=hlt _ h;omega
  have grown:∀(vx:ah Value) (nN:Option Nat) (sc:Nat),vx.length=xs.length*X.E.sz u->(∀(i:Nat) y (j:Nat) c,xs[i]?=some y->(X.E.enc u y)[j]?=some c->∃v,vx[i*X.E.sz u+j]?=some v/\Rel X.E S ρ w c v)->
   AF X S ρ B w u (xs++ys) nN (.slice (some ⟨w.heap.size,0,none⟩) (xs.length+ys.length) (grownCap w (xs.length+ys.length) sc (X.E.tid u)))
    (w.drew.alloc (.cells (vx.toArray++news.toArray++Builtin.zeroCells z.cells (grownCap w (xs.length+ys.length) sc (X.E.tid u)-(xs.length+ys.length))) (X.E.tid u)))
    ⟨w.heap.size,grownCap w (xs.length+ys.length) sc (X.E.tid u)*X.E.sz u,X.E.sz u,xs.length+ys.length⟩:=by
   intro vx nN sc TM TL;have Fl:=grownCap_ge w (xs.length+ys.length) sc (X.E.tid u)
   refine⟨rfl,rfl,rfl,ae,λ_=>Nat.le_succ _,λk hk _=>heap_alloc_old w.drew _ k hk,λ_=>.inr (aY _),λρ'=>⟨rfl,ae,by simp only[aF];exact bu _ Fl,λ_=>⟨hB _ (aY _),rW,_,heap_alloc_new w.drew _,?_,?_⟩⟩,.inl ⟨_,rfl,aY _,Fl⟩⟩
   ·simp only[Array.size_append,kQ,size_zeroCells,yq,TM,QP,<-cY]
    congr 1;omega
   ·refine DC (ρ:=ρ) (w:=w) hX (λk hk=>heap_alloc_old w.drew _ k (hlt k hk)) TM TL Ps (λj v hj=>?_)
    rw[<-bO]
    simp only[Array.toList_append]
    rw[a_ (ak.1 hj).1]
    exact hj
  rcases hs with⟨rfl,rfl,rfl⟩|⟨l,cap,rfl,rfl,si,hle,uT⟩
  ·have hr:=run_append_nil (P:=P) w ty ot (X.E.tid u) ie z hu hi hz ad ys.length cp news (by rw[hsz];exact QP) TY _Q (by simp at hm;omega) (by rw[AQ];simp at hb;omega)
   have hg:=grown [] none 0 ae ae
   simp only[eW,bZ,Array.empty_append]at hg;exact⟨_,_,_,hr,hg⟩
  ·by_cases hroom:xs.length+ys.length<=cap
   ·have hn:l.n≠0:=by have:=fP (show 0<cap by omega) hp;omega
    have Ur:=uT;obtain⟨h1,h2,h3,h4⟩:=uT;obtain⟨h5,h6,cur,hh,h7,h8⟩:=h4 hn;have uS:xs.length*X.E.sz u+news.length<=cur.size:=by
     rw[QP,<-cY,h7]
     exact ck (bu _ hroom) si
    have hr:=run_append_room (P:=P) w ty ot (X.E.tid u) ie hu hi l.b xs.length cap cur hh ad ys.length cp news (by rw[hsz];exact QP) TY o7 hroom (by rw[hsz];exact uS)
    rw[hsz]at hr;refine⟨_,_,⟨l.b,l.n,X.E.sz u,xs.length+ys.length⟩,hr,rfl,rfl,rfl,ae,λ_=>aY _,λk hk gn=>setRow_other w l.b k _ (λe=>gn (by rw[e,if_neg hn])),λ_=>.inl (by rw[if_neg hn]),λρ'=>⟨rfl,ae,?_,λ_=>⟨h5,h6,_,setRow_heap w l.b cur _ _ _ hh,?_,?_⟩⟩,.inl ⟨cap,rfl,si,hroom⟩⟩
    ·simp only[aF]
     exact ck (bu _ hroom) si
    ·simp;omega
    ·have Ju:(cur.toList.take (xs.length*X.E.sz u)).length=xs.length*X.E.sz u:=by simp;omega
     refine DC (ρ:=ρ) (w:=w) hX (λk hk=>setRow_other w l.b k _ (by rintro rfl;exact h6 hk)) Ju (λi y j c hi hj=>?_) Ps (λj v hj=>?_)
     ·obtain⟨v,hv,hr⟩:=h8 i y j c hi hj;have rX:i<xs.length:=(ak.1 hi).1;have mQ:j<X.E.sz u:=by rw[<-hX.u.len u y];exact(ak.1 hj).1
      have Ek:i*X.E.sz u+j<xs.length*X.E.sz u:=by
       have:(i+1)*X.E.sz u<=xs.length*X.E.sz u:=bu _ rX;rw[cY,hU]at this;omega
      exact⟨v,by rw[cd Ek];simpa using hv,hr⟩
     ·rw[cZ,a_ (ak.1 hj).1]
      exact hj
   ·have holds: ∃vx:ah Value,vx.length=xs.length*X.E.sz u/\(∀j v,vx[j]?=some v->w.cell? ((⟨l.b,0,none⟩:Addr).add j)=some v)/\(∀(i:Nat) y (j:Nat) c,xs[i]?=some y->(X.E.enc u y)[j]?=some c-> ∃v,vx[i*X.E.sz u+j]?=some v/\Rel X.E S ρ w c v):=by
     have WM:Fc X.E S ρ w u xs ⟨l.b,0,none⟩:=λi y j c hi hj=>by
      have hn:l.n≠0:=by
       have:0<xs.length:=by have:=(ak.1 hi).1;omega
       have:=fP this hp;have:=uT.2.2.1;omega
      obtain⟨h1,h2,h3,h4⟩:=uT;obtain⟨h5,h6,cur,hh,h7,h8⟩:=h4 hn;obtain⟨v,hv,hr⟩:=h8 i y j c hi hj;exact⟨v,by rw[gV,bZ,cell_of_row w l.b _ cur _ (0,0) hh];exact hv,hr⟩
     obtain⟨vx,g1,g2,_,g4⟩:=uF hX WM;exact⟨vx,g1,g2,g4⟩
    obtain⟨vx,g1,g2,g4⟩:=holds;have hr:=run_append_grow (P:=P) w ty ot (X.E.tid u) ie z hu hi hz ⟨l.b,0,none⟩ xs.length cap vx (by rw[hsz];exact g1) g2 ad ys.length cp news (by rw[hsz];exact QP) TY ab ab (growslice_fits ab (by rw[AQ];exact hb))
    exact⟨_,_,_,hr,grown vx _ cap g1 g4⟩
theorem Ce(s:ah UInt8)(i:Nat)(h:i<s.length):(strCells ⟨s.toArray⟩)[i]?=some (.int .u8 (s.getD i 0).toNat):=by simp[strCells,h,List.getD]
theorem EZ{u:U}{mk:ah UInt8->ah (El u)}{un:ah (El u)->ah UInt8}{xs:ah (El u)}{s:ah UInt8}{sv:Value}{ty Sm ot:TypeId}{nN:Option Nat}(hu:oJ P X.E)(yx:MN X.E u mk un)(hB: ∀k,w.heap.size<=k->B.own k)(hlt: ∀b,S b->b<w.heap.size)
 (RH:P.underlying ty=some (.slice (X.E.tid u))) (Ob:P.underlying Sm=some .string)
 (hs:(sv=.slice none 0 0/\xs=[]/\nN=none)\/∃l cap,sv=.slice (some ⟨l.b,0,none⟩) xs.length cap/\nN=(if l.n=0 then none else some l.b)/\cap*X.E.sz u<=l.n/\xs.length<=cap/\0<cap/\dt X.E S ρ w B l (.rows u xs))
 (hm:xs.length+s.length<=140737488355328):
 ∃v' w' l',(Builtin.append_ #[ty,Sm] ot #[sv,.string ⟨s.toArray⟩]).run P w=.ok v' w'/\AF X S ρ B w u (xs++mk s) nN v' w' l'/\(∀ao n,v'≠ .slice (some ao) n 0):=by
 obtain⟨ie,z,hi,hsz,AQ,hz,yq,_⟩:=hu.info u;have Bl:X.E.sz u=1:=yx.sz;have ZB:X.E.AR u=1:=yx.AR;have Ls:(⟨s.toArray⟩:ByteArray).size=s.length:=by simp[ByteArray.size]
 have LQ:strCells ⟨s.toArray⟩=s.map (λb=>Value.int .u8 b.toNat):=by simp[strCells]
 have RM:(strCells ⟨s.toArray⟩).length=s.length:=by simp[strCells]
 have Ps:∀(i:Nat) y (j:Nat) c,(mk s)[i]?=some y->(X.E.enc u y)[j]?=some c->∃v,(strCells ⟨s.toArray⟩)[i*X.E.sz u+j]?=some v/\Rel X.E S ρ w c v:=λi y j c hi hj=>by
  have rX:i<s.length:=by rw[<-yx.len];exact(ak.1 hi).1
  obtain⟨y',h1,h2⟩:=yx.enc s i rX;rw[hi]at h1;cases h1;rw[h2]at hj;match j,hj with
  |0,hj=>
   cases hj;exact⟨_,by rw[Bl,mD,gg];exact Ce s i rX,.int _ _⟩
 have M0:bp P X->True:=λ_=>trivial
 have Hn:∀{vx:ah Value} {c:Array Value} {w':World} {ρ':eJ},(∀k,S k->w'.heap[k]?=w.heap[k]?)->vx.length=xs.length*X.E.sz u->
  (∀(i:Nat) y (j:Nat) c,xs[i]?=some y->(X.E.enc u y)[j]?=some c->∃v,vx[i*X.E.sz u+j]?=some v/\Rel X.E S ρ w c v)->
  (∀(j:Nat) v,(vx++strCells ⟨s.toArray⟩)[j]?=some v->c[j]?=some v)->
  ∀(i:Nat) y (j:Nat) e,(xs++mk s)[i]?=some y->(X.E.enc u y)[j]?=some e->∃v,c[i*X.E.sz u+j]?=some v/\Rel X.E S ρ' w' e v:=by
  intro vx c w' ρ' hS Ju hx hc i y j e hi hj;have fin:∀v,Rel X.E S ρ w e v->Rel X.E S ρ' w' e v:=λv h=>(h.mono (ρ':=ρ) (λ_ h=>h) hS (λ_ _ h=>h)).ew hu (hu.cell u y e (aD hj))
  by_cases h:i<xs.length
  ·rw[a_ h]at hi;obtain⟨v,hv,hr⟩:=hx i y j e hi hj;exact⟨v,hc _ v (by rw[a_ ((ak.1 hv).1)];exact hv),fin v hr⟩
  ·rw[br ab]at hi;obtain⟨v,hv,hr⟩:=Ps _ y j e hi hj;have mQ:j<X.E.sz u:=by rw[<-hu.len u y];exact(ak.1 hj).1
   refine⟨v,hc _ v ?_,fin v hr⟩
   rw[br (by rw[Ju,Bl];omega),<-hv]
   congr 1;rw[Ju,Bl]
   omega
 have rW:¬S w.heap.size:=λh=>by have:=hlt _ h;omega
 have grown:∀(vx:ah Value) (nN:Option Nat) (sc:Nat),sc<xs.length+s.length->vx.length=xs.length*X.E.sz u->(∀(i:Nat) y (j:Nat) c,xs[i]?=some y->(X.E.enc u y)[j]?=some c->∃v,vx[i*X.E.sz u+j]?=some v/\Rel X.E S ρ w c v)->
  AF X S ρ B w u (xs++mk s) nN (.slice (some ⟨w.heap.size,0,none⟩) (xs.length+s.length) (grownCap w (xs.length+s.length) sc (X.E.tid u)))
   (w.drew.alloc (.cells (vx.toArray++(strCells ⟨s.toArray⟩).toArray++Builtin.zeroCells z.cells (grownCap w (xs.length+s.length) sc (X.E.tid u)-(xs.length+s.length))) (X.E.tid u)))
   ⟨w.heap.size,grownCap w (xs.length+s.length) sc (X.E.tid u)*X.E.sz u,X.E.sz u,xs.length+s.length⟩/\(∀ao n,(Value.slice (some ⟨w.heap.size,0,none⟩) (xs.length+s.length) (grownCap w (xs.length+s.length) sc (X.E.tid u)))≠ .slice (some ao) n 0):=by
  intro vx nN sc hsc TM TL;have Fl:=grownCap_ge w (xs.length+s.length) sc (X.E.tid u)
  refine⟨⟨rfl,rfl,rfl,ae,λ_=>Nat.le_succ _,λk hk _=>heap_alloc_old w.drew _ k hk,λ_=>.inr (aY _),λρ'=>⟨rfl,by simp[yx.len],by simp only[aF,yx.len];exact bu _ Fl,λ_=>⟨hB _ (aY _),rW,_,heap_alloc_new w.drew _,?_,?_⟩⟩,.inl ⟨_,rfl,aY _,Fl⟩⟩,λao n h=>?_⟩
  ·simp only[Array.size_append,kQ,size_zeroCells,yq,TM,RM,Bl]
   omega
  ·refine Hn (λk hk=>heap_alloc_old w.drew _ k (hlt k hk)) TM TL (λj v hj=>?_)
   rw[<-bO]
   simp only[Array.toList_append]
   rw[a_ (ak.1 hj).1]
   exact hj
  ·injection h with _ _ h3
   omega
 rcases hs with⟨rfl,rfl,rfl⟩|⟨l,cap,rfl,rfl,si,hle,hc0,uT⟩
 ·by_cases h0:s.length=0
  ·have hs0:s=[]:=bq h0;subst hs0;have Xg:mk []=[]:=bq (by rw[yx.len];rfl)
   refine⟨.slice none 0 0,w,⟨0,0,X.E.sz u,0⟩,?_,⟨rfl,rfl,rfl,aY _,λ_=>aY _,λ_ _ _=>rfl,λh=>absurd rfl h,λρ'=>⟨rfl,by simp[Xg],by simp[Xg],λh=>absurd rfl h⟩,.inr ⟨rfl,rfl,rfl⟩⟩,λ_ _ h=>by simp at h⟩
   have hf:=run_firstCells_string (P:=P) w 1 ⟨([]:ah UInt8).toArray⟩
   simp only[ByteArray.size,kQ,eW]at hf;simp[Builtin.append_,run_underlying RH,run_underlying Ob,sizeOf,typeInfo,hi,hsz,Bl,Builtin.lenOf,ByteArray.size,hf]
  ·have hr:=run_append_nil_string (P:=P) w ty Sm ot (X.E.tid u) ie z RH Ob hi hz ⟨s.toArray⟩ (by rw[Ls];omega) (by rw[Ls];simp at hm;omega) (by rw[Ls,AQ,ZB];simp at hm;omega)
   have hg:=grown [] none 0 (by simp;omega) ae ae
   simp only[eW,bZ,Array.empty_append]at hg;rw[Ls]at hr;have e1:((⟨s.toArray⟩:ByteArray).data.map λb=>Value.int .u8 b.toNat)=(strCells ⟨s.toArray⟩).toArray:=by
    apply f_;simp[strCells]
   rw[e1]at hr;exact⟨_,_,_,hr,hg⟩
 ·have hn:l.n≠0:=by rw[Bl]at si;omega
  have Ur:=uT;obtain⟨h1,h2,h3,h4⟩:=uT;obtain⟨h5,h6,cur,hh,h7,h8⟩:=h4 hn;by_cases hroom:xs.length+s.length<=cap
  ·have uS:xs.length+s.length<=cur.size:=by rw[h7];rw[Bl]at si;omega
   have hr:=run_append_room_string (P:=P) w ty Sm ot (X.E.tid u) ie RH Ob hi (by rw[hsz,Bl]) l.b xs.length cap cur hh ⟨s.toArray⟩ (by rw[Ls];exact hroom) (by rw[Ls];exact uS)
   rw[Ls]at hr;refine⟨_,_,⟨l.b,l.n,X.E.sz u,xs.length+s.length⟩,hr,⟨rfl,rfl,rfl,ae,λ_=>aY _,λk hk gn=>setRow_other w l.b k _ (λe=>gn (by rw[e,if_neg hn])),λ_=>.inl (by rw[if_neg hn]),λρ'=>⟨rfl,by simp[yx.len],?_,λ_=>⟨h5,h6,_,setRow_heap w l.b cur _ _ _ hh,?_,?_⟩⟩,.inl ⟨cap,rfl,si,hroom⟩⟩,λao n h=>?_⟩
   ·simp only[aF,yx.len,Bl]
    rw[Bl]at si;omega
   ·simp[RM];omega
   ·have Ju:(cur.toList.take xs.length).length=xs.length*X.E.sz u:=by simp[Bl];omega
    refine Hn (λk hk=>setRow_other w l.b k _ (by rintro rfl;exact h6 hk)) Ju (λi y j c hi hj=>?_) (λj v hj=>?_)
    ·obtain⟨v,hv,hr⟩:=h8 i y j c hi hj;have rX:i<xs.length:=(ak.1 hi).1;have mQ:j<X.E.sz u:=by rw[<-hu.len u y];exact(ak.1 hj).1
     rw[Bl]at mQ;refine⟨v,?_,hr⟩
     rw[cd (by rw[Bl];omega)]
     simpa using hv
    ·rw[cZ,a_ (ak.1 hj).1]
     exact hj
   ·injection h with _ _ h3
    omega
  ·have uw: ∃vx:ah Value,vx.length=xs.length*X.E.sz u/\(∀j v,vx[j]?=some v->w.cell? ((⟨l.b,0,none⟩:Addr).add j)=some v)/\(∀(i:Nat) y (j:Nat) c,xs[i]?=some y->(X.E.enc u y)[j]?=some c-> ∃v,vx[i*X.E.sz u+j]?=some v/\Rel X.E S ρ w c v):=by
    have Qz:xs.length<=cur.size:=by rw[h7];rw[Bl]at si;omega
    refine⟨cur.toList.take xs.length,by simp[Bl];omega,λj v hj=>?_,λi y j c hi hj=>?_⟩
    ·rw[gV,bZ,cell_of_row w l.b _ cur _ (0,0) hh]
     rw[fQ]at hj;split at hj
     ·simpa using hj
     ·cases hj
    ·obtain⟨v,hv,hr⟩:=h8 i y j c hi hj;have rX:i<xs.length:=(ak.1 hi).1;have mQ:j<X.E.sz u:=by rw[<-hu.len u y];exact(ak.1 hj).1
     rw[Bl]at mQ;refine⟨v,?_,hr⟩
     rw[cd (by rw[Bl];omega)]
     simpa using hv
   obtain⟨vx,g1,g2,g4⟩:=uw;have hr:=run_append_grow_string (P:=P) w ty Sm ot (X.E.tid u) ie z RH Ob hi hz ⟨l.b,0,none⟩ xs.length cap vx (by rw[hsz];exact g1) g2 ⟨s.toArray⟩ (by rw[Ls];omega) (by rw[Ls];omega) (by rw[Ls,AQ,ZB];exact growslice_fits ab ab)
   rw[Ls]at hr;exact⟨_,_,_,hr,grown vx _ cap ab g1 g4⟩
theorem wv{h:bI U El}{ty rk ot:TypeId}{u:U}{xs ys:ah (El u)}{sv xv:Value}{x:AV U El}{nN:Option Nat}(hX:bp P X)(hH:fa X.E S ρ w B h)(hB: ∀k,w.heap.size<=k->B.own k)(hu:P.underlying ty=some (.slice (X.E.tid u)))
 (hs:(sv=.slice none 0 0/\xs=[]/\nN=none)\/∃l cap,sv=.slice (some ⟨l.b,0,none⟩) xs.length cap/\nN=(if l.n=0 then none else some l.b)/\cap*X.E.sz u<=l.n/\xs.length<=cap/\dt X.E S ρ w B l (.rows u xs))
 (CF:Rel X.E S ρ w x xv) (xF:sE X ty rk h u x=some ys) (MZ:MC ty rk xs.length ys.length=true)
 (hb:(xs.length+ys.length)*X.E.AR u<=140737488355328) (hm:xs.length+ys.length<=9223372036854775807):
 ∃v' w' l',(Builtin.append_ #[ty,rk] ot #[sv,xv]).run P w=.ok v' w'/\AF X S ρ B w u (xs++ys) nN v' w' l':=by
 unfold sE at xF;cases he:Nat.beq ty rk with
 |true=>
  rw[he,cond_true]at xF;obtain rfl:=al he;obtain⟨ao,cp,MU,uw⟩:=zh hX hH CF xF;exact Ax hX hB hH.lt hu hs MU uw hb hm
 |false=>
  rw[he,cond_false]at xF;unfold MC at MZ;rw[he,fe,aj]at MZ;have h0:0<xs.length:=of_decide_eq_true MZ.1;have h1:xs.length+ys.length<=140737488355328:=of_decide_eq_true MZ.2;split at xF
  ·rename_i s gM;cases AQ:X.E.Av u with
   |false=>rw[AQ,cond_false]at xF;cases xF
   |true=>
    rw[AQ,cond_true]at xF;cases xF;cases CF;obtain⟨yx,_⟩:=hX.u.RW u AQ;have hl:=yx.len s;obtain⟨v',w',l',g1,g2,_⟩:=EZ (ot:=ot) hX.u yx hB hH.lt hu (hX.td _ _ gM) (by
     rcases hs with⟨_,hx0,_⟩|⟨l,cap,e1,e2,e3,e4,e5⟩
     ·rw[hx0]at h0;exact absurd h0 (Nat.lt_irrefl _)
     ·exact .inr ⟨l,cap,e1,e2,e3,e4,ab,e5⟩) (by rw[<-hl];exact h1)
    exact⟨v',w',l',g1,g2⟩
  ·cases xF
theorem zg{h:bI U El}{u:U}{sv:AV U El}{v:Value}{xs:ah (El u)}{id:Option Nat}(hX:bp P X)(hH:fa X.E S ρ w B h)(QG:Rel X.E S ρ w sv v)(sq:Af sv=true)(wC:sC h u sv=some (xs,id)):
 ∃nN,((v=.slice none 0 0/\xs=[]/\nN=none)\/ ∃l cap,v=.slice (some ⟨l.b,0,none⟩) xs.length cap/\nN=(if l.n=0 then none else some l.b)/\cap*X.E.sz u<=l.n/\xs.length<=cap/\dt X.E S ρ w B l (.rows u xs))/\
  (∀b,nN=some b->∃j l b0,id=some j/\aN h j=some b0/\ρ j=some l/\l.n≠0/\l.b=b/\dt X.E S ρ w B l b0):=by
 unfold sC at wC;split at wC
 ·cases wC;cases QG;exact⟨none,.inl ⟨rfl,rfl,rfl⟩,ae⟩
 ·rename_i j;split at wC
  ·rename_i u' M5 hg;split at wC
   ·rename_i eu;subst eu;cases wC;obtain⟨l,hl,iV⟩:=hH.get _ _ hg;cases QG with
    |cf _ cap l' dq e1 e2=>
     rw[hl]at dq;cases dq;refine⟨_,.inr ⟨l,cap,by rw[iV.2.1],rfl,by rw[<-iV.1];exact e1,by rw[<-iV.2.1];exact e2,iV⟩,λb hb=>?_⟩
     by_cases hn:l.n=0
     ·rw[if_pos hn]at hb;cases hb
     ·rw[if_neg hn]at hb;cases hb;exact⟨j,l,_,rfl,hg,hl,hn,rfl,iV⟩
    |j7 _ l' dq e1 e2=>
     rw[hl]at dq;cases dq;exact⟨none,.inl ⟨rfl,bq (show M5.length=0 by have:=iV.2.1;omega),rfl⟩,ae⟩
   ·cases wC
  ·cases wC
 ·rename_i j lo len;split at wC
  ·rename_i u' M5 hg;split at wC
   ·rename_i eu;subst eu;cases wC;obtain⟨l,hl,iV⟩:=hH.get _ _ hg;simp only[Af,aj,lU,decide_eq_true_eq]at sq;obtain⟨h0,h1⟩:=sq;obtain rfl:=al h0;cases QG with
    |nH=>omega
    |own _ _ _ cap l' dq e1 e2 e3=>
     rw[hl]at dq;cases dq;have XI:=iV;obtain⟨b1,b2,b3,b4⟩:=iV;have hlen:(List.take len M5).length=len:=by rw[bV];omega
     have hp:=hX.u.pos u';have hn:l.n≠0:=by
      have:=fP (show 0<0+cap by omega) (show 0<l.s by rw[b1];exact hp)
      omega
     refine⟨_,.inr ⟨⟨l.b,l.n,l.s,len⟩,cap,by rw[hlen,Nat.zero_mul],rfl,?_,by rw[hlen];exact e2,b1,hlen.symm,?_,λoK=>?_⟩,λb hb=>?_⟩
     ·rw[<-b1];rw[bZ]at e1;exact e1
     ·rw[hlen]
      refine ck (bu _ e2) ?_;rw[<-b1];rw[bZ]at e1;exact e1
     ·obtain⟨h5,h6,c,hh,h7,h8⟩:=b4 hn;refine⟨h5,h6,c,hh,h7,λi x k a ku hj=>h8 i x k a ?_ hj⟩
      rw[fQ]at ku;split at ku
      ·exact ku
      ·cases ku
     ·rw[if_neg hn]at hb;cases hb;exact⟨j,l,_,rfl,hg,hl,hn,rfl,XI⟩
   ·cases wC
  ·cases wC
 ·cases wC
theorem Ay{ty rk:TypeId}{s x:Operand}{k:St U El->Option (Fin U El)}(hX:bp P X)(ho:o.op=.call ⟨.builtin .append,#[s,x],#[ty,rk]⟩)(jb:o.dst=some d)(hd:d<X.nt)(hi:Inv X B S0 w0 S ρ st a w)
 (hv:Az X d ty rk (bm st.t s) (bm st.t x) st k=some r) {next:Act->World->Prop} {Q:Exit->Act->World->Prop}
 (hn:∀bx a' w',bK X B S0 w0 bx a' w'->k bx=some r->next a' w'):o.wp P a w next Q:=by
 have QG:Rel X.E S ρ w (bm st.t s) (a.eval s):=Rel.bm λi _=>hi.tmps i
 have CF:Rel X.E S ρ w (bm st.t x) (a.eval x):=Rel.bm λi _=>hi.tmps i
 unfold Az at hv;split at hv
 ·rename_i u gM;have hu:P.underlying ty=some (.slice (X.E.tid u)):=hX.td _ _ gM;split at hv
  ·rename_i xs id ys wC xF;obtain⟨iu,hk⟩:=aQ hv;simp only[aj,bU,decide_eq_true_eq]at iu;obtain⟨⟨sq,MZ⟩,hb,hm⟩:=iu;have hp:=hX.u.pos u;have hs:=zg hX hi.heap QG sq wC;obtain⟨nN,hsv,hold⟩:=hs;obtain⟨v',w',l',de,fJ⟩:=wv (ot:=o.type) hX hi.heap hi.hB hu hsv CF xF MZ hb hm;have Ee:(execOp a.eval o).run P w=.ok (.value v') w':=by
    simp only[execOp,ho,resolve,invoke,builtin,lL,dx,jf,Sem.run_bind,Sem.run_pure,Result.andThen_ok,de]
   unfold Oper.wp;rw[Ee]
   show next (a.put o.dst v') w'
   rw[jb]
   have hf: ∃nM,Inv X B S0 w0 S nM ((match id with|some id=>st.forget id|none=>st).forget d) a w/\nM d=none/\(∀j,id=some j->nM j=none)/\(∀j l,nM j=some l->ρ j=some l)/\
    ∀j b,aN ((match id with|some id=>st.forget id|none=>st).forget d).h j=some b->j≠d/\id≠some j/\∃b0,aN st.h j=some b0:=by
    cases id with
    |none=>
     refine⟨_,hi.forget hX d,by simp[eJ.del],ae,λj l h=>?_,λj b h=>?_⟩
     ·unfold eJ.del at h;split at h;cases h;exact h
     ·simp only[St.forget,nW,lz,aJ]at h;obtain⟨b0,h0,_⟩:=h;split at h0
      ·cases h0
      ·rename_i e;exact⟨e,ae,b0,h0⟩
    |some i=>
     refine⟨_,(hi.forget hX i).forget hX d,by simp[eJ.del],λj hj=>?_,λj l h=>?_,λj b h=>?_⟩
     ·cases hj;simp[eJ.del]
     ·unfold eJ.del at h;split at h;cases h;split at h;cases h;exact h
     ·simp only[St.forget,nW,lz,aJ]at h;obtain⟨b0,h0,_⟩:=h;split at h0
      ·cases h0
      ·rename_i e;simp only[aJ]at h0;obtain⟨b1,h1,_⟩:=h0;split at h1
       ·cases h1
       ·rename_i e2;exact⟨e,by simp[cq e2],b1,h1⟩
   obtain⟨nM,hinv,N9,Za,Qw,Pw⟩:=hf;generalize ((match id with|some id=>st.forget id|none=>st).forget d)=qq at hk hinv Pw;refine hn _ _ _ ⟨S,nM.set d l',?_⟩ hk;have Et:∀b,S b->w'.heap[b]?=w.heap[b]?:=λb hb=>fJ.block b (hi.heap.lt b hb) (λe=>by
    obtain⟨j,l,_,_,_,_,hn0,Em,iV⟩:=hold b e.symm;exact(iV.lt hn0).2.2 (by rw[Em];exact hb))
   have lC:∀j l,nM j=some l->(nM.set d l') j=some l:=λj l h=>by
    by_cases e:j=d
    ·subst e;rw[N9]at h;cases h
    ·simp[eJ.set,e,h]
   have zZ:∀j b l,aN qq.h j=some b->nM j=some l->l.n≠0->some l.b≠nN:=λj b l hg hl hn0 e=>by
    obtain⟨j',l2,_,hid,Er,qx,pN,Em,iV⟩:=hold l.b e.symm;obtain⟨_,gn,b0,xW⟩:=Pw j b hg;exact hi.heap.inj j j' b0 _ l l2 xW Er (by rintro rfl;exact gn hid) (Qw j l hl) qx hn0 pN Em.symm
   have iV:=fJ.blk (nM.set d l')
   refine⟨hinv.defers,by simp[Act.put,hinv.size],hinv.below.trans ⟨fJ.os,fJ.tape,fJ.output,fJ.size,fJ.drawn,λk hk XJ=>fJ.block k hk (λe=>XJ ?_)⟩,λk hk=>hi.hB k (ck fJ.size hk),hi.s0,hi.s1,hi.g0,?_,⟨λj b hg=>?_,λi j b b' l l2 kY lG gn oL lV o7 pN=>?_,λb hb=>fk (hi.heap.lt b hb) fJ.size⟩⟩
   ·obtain⟨j,l,_,_,_,_,hn0,Em,iV⟩:=hold k e.symm;rw[<-Em]
    exact(iV.lt hn0).2.1
   ·refine mW (d:=some d) (av:=.cf d) (λe he=>by cases he;rw[hinv.size];exact hd) (λi=>(hinv.tmps i).mono (λ_ h=>h) Et lC) ?_;have e1:(nM.set d l') d=some l':=by simp[eJ.set]
    rcases fJ.val with⟨cap,rfl,h1,h2⟩|⟨rfl,h1,h2⟩
    ·exact .cf d cap l' e1 h1 h2
    ·exact .j7 d l' e1 h1 h2
   ·simp only[aN]at hg;by_cases e:d=j
    ·subst e;rw[aG]at hg;cases hg;exact⟨l',by simp[eJ.set],iV⟩
    ·rw[aO e]at hg;obtain⟨l,hl,hb⟩:=hinv.heap.get j b hg;exact⟨l,lC j l hl,hb.mono (λ_ h=>h) Et lC λhn0=>⟨fJ.block _ (hb.lt hn0).1 (zZ j b l hg hl hn0),(hb.lt hn0).2.2⟩⟩
   ·have sep: ∀j b l,aN qq.h j=some b->nM j=some l->l.n≠0->l'.n≠0->l.b≠l'.b:=λj b l hg hl hn0 oK e=>by
     rcases fJ.at_ oK with h|h
     ·exact zZ j b l hg hl hn0 (by rw[e];exact h)
     ·obtain⟨l2,qx,hb⟩:=hinv.heap.get j b hg;rw[hl]at qx;cases qx;have:=(hb.lt hn0).1;omega
    simp only[aN]at kY lG;by_cases ei:d=i
    ·subst ei;have:(nM.set d l') d=some l':=by simp[eJ.set]
     rw[this]at oL;cases oL;rw[aO gn]at lG;have qw:nM j=some l2:=by simpa[eJ.set,cq gn]using lV
     exact(sep j b' l2 lG qw pN o7).symm
    ·rw[aO ei]at kY;have rF:nM i=some l:=by simpa[eJ.set,cq ei]using oL
     by_cases ej:d=j
     ·subst ej;have:(nM.set d l') d=some l':=by simp[eJ.set]
      rw[this]at lV;cases lV;exact sep i b l kY rF o7 pN
     ·rw[aO ej]at lG;have qw:nM j=some l2:=by simpa[eJ.set,cq ej]using lV
      exact hinv.heap.inj i j b b' l l2 kY lG gn rF qw o7 pN
  ·cases hv
 ·cases hv
theorem A_{P:Program}(w:World)(t e ty:TypeId)(z:Value)(ht:P.underlying t=some (.slice e))(hv:∀w,(zeroValue e).run P w=.ok z w)(b o n c:Nat)(hn:0<n)(cur:Array Value)(T:TypeId)(hb:w.heap[b]?=some (.cells cur T (0,0)))
 (uS:o+(Builtin.zeroCells z.cells n).toList.length<=cur.size) (h1:∀x∈(Builtin.zeroCells z.cells n).toList,x.oneCell'=true):
 (Builtin.clear_ #[t] ty #[.slice (some ⟨b,o,none⟩) n c]).run P w=.ok (.tuple #[]) (w.setRow b (cur.toList.take o++(Builtin.zeroCells z.cells n).toList++cur.toList.drop (o+(Builtin.zeroCells z.cells n).toList.length)).toArray):=by
 have mq:=run_storeCells_at P b o T (Builtin.zeroCells z.cells n).toList 0 cur w hb (by simpa using uS) h1;simp only[gg]at mq;obtain⟨m,rfl⟩:∃m,n=m+1:=⟨n-1,ab⟩
 simp only[Builtin.clear_,cZ,mF,Sem.run_bind,run_underlying ht,Result.andThen_ok,hv,mq,Sem.run_pure]
theorem um(z:Array Value)(n i j:Nat)(hj:j<z.size)(hi:i<n):(Builtin.zeroCells z n).toList[i*z.size+j]?=z[j]?:=by
 have hlen:i*z.size+j<n*z.size:=by
  have:=bu z.size (show i+1<=n by omega)
  rw[cY,hU]at this;omega
 have hm:(i*z.size+j)%z.size=j:=by rw[je,Nat.mul_add_mod,lH hj]
 rw[bO]
 simp[Builtin.zeroCells,hlen,hm,hj]
theorem Bs{aaa:Array Operand}{ts:Array TypeId}{s:Operand}{ty:TypeId}{k:St U El->Option (Fin U El)}(hX:bp P X)(ho:o.op=.call ⟨.builtin .clear,#[s],#[ty]⟩)(hd:o.dst=none)(hi:Inv X B S0 w0 S ρ st a w)
 (hv:CY X ty (bm st.t s) st k=some r) {next:Act->World->Prop} {Q:Exit->Act->World->Prop}
 (hn:∀bx a' w',bK X B S0 w0 bx a' w'->k bx=some r->next a' w'):o.wp P a w next Q:=by
 have hs:Rel X.E S ρ w (bm st.t s) (a.eval s):=Rel.bm λi _=>hi.tmps i
 unfold CY at hv;split at hv
 ·rename_i u id lo len gM Bl;split at hv
  ·rename_i v xs hg;obtain⟨iu,hk⟩:=aQ hv;simp only[aj,lU,bU,decide_eq_true_eq]at iu;obtain⟨rfl,hlen,hle⟩:=iu;rw[Bl]at hs;obtain⟨l,hl,hb⟩:=hi.heap.get _ _ hg;have pO:=hb;obtain⟨c1,c2,c3,c4⟩:=hb;have hpos:=hX.u.pos v;have hn0:l.n≠0:=by
    have:0<xs.length*X.E.sz v:=fP ab hpos;omega
   obtain⟨c5,c6,cur,hh,c7,c8⟩:=c4 hn0;obtain⟨ie,z,AP,hsz,AQ,hz,yq,N'⟩:=hX.u.info v;generalize hq:a.eval s=q at hs;cases hs with
   |nH _ _ ao cap=>omega
   |own _ _ _ cap l' dq e1 e2 e3=>
    rw[hl]at dq;cases dq;have Qy:∀w,(zeroValue (X.E.tid v)).run P w=.ok z w:=λw=>by simp[zeroValue,typeInfo,AP,hz]
    have Pm:(Builtin.zeroCells z.cells len).toList.length=len*X.E.sz v:=by rw[cW,size_zeroCells,yq]
    have _O:∀x∈(Builtin.zeroCells z.cells len).toList,x.oneCell'=true:=λx hx=>by
     obtain⟨q,hq⟩:=jg hx;have γ:q<len*X.E.sz v:=by rw[<-Pm];exact(ak.1 hq).1
     have Vr:q/X.E.sz v<len:=Nat.div_lt_of_lt_mul (by rw[je];exact γ)
     have Zi:q%X.E.sz v<X.E.sz v:=Nat.mod_lt _ hpos;have:=um z.cells len (q/X.E.sz v) (q%X.E.sz v) (by rw[yq];exact Zi) Vr;rw[yq,show q/X.E.sz v*X.E.sz v+q%X.E.sz v=q by rw[je];exact Nat.div_add_mod q _,hq]at this;have hj:q%X.E.sz v<(X.E.enc v (X.E.iL v)).length:=by rw[hX.u.len];exact Zi
     obtain⟨y,hy,Jo⟩:=N' _ _ (az hj)
     rw[hy]at this;cases this;exact zx (Jo (λ_=>False) (λ_=>none) w) (ES (hX.u.cell _ _ _ (bW hj)))
    have uS:lo*l.s+(Builtin.zeroCells z.cells len).toList.length<=cur.size:=by
     rw[Pm,c7,c1,<-cY]
     exact ck (bu _ hle) c3
    have de:=A_ (P:=P) w ty (X.E.tid v) o.type z (hX.td _ _ gM) Qy l.b (lo*l.s) len cap hlen cur _ hh uS _O;have LM:(execOp a.eval o).run P w=.ok (.value (.tuple #[])) (w.setRow l.b (cur.toList.take (lo*l.s)++(Builtin.zeroCells z.cells len).toList++cur.toList.drop (lo*l.s+(Builtin.zeroCells z.cells len).toList.length)).toArray):=by
     unfold execOp;simp only[ho,resolve,invoke,builtin,Sem.run_bind,Sem.run_pure,Result.andThen_ok,lL,dx,jf,hq,de]
    unfold Oper.wp;rw[LM]
    show next (a.put o.dst (.tuple #[])) _
    rw[hd]
    refine hn _ _ _ ⟨S,ρ,hi.setRow hg hl pO hn0 hh ?_⟩ hk;have zX:(List.take lo xs++(List.replicate len (X.E.iL v)++List.drop (lo+len) xs)).length=xs.length:=by simp;omega
    have gT:∀W:World,(∀k,k≠l.b->W.heap[k]?=w.heap[k]?)->∀k,S k->W.heap[k]?=w.heap[k]?:=λW hW k hk=>hW k (by rintro rfl;exact c6 hk)
    refine⟨c1,by rw[zX];exact c2,by rw[zX];exact c3,λ_=>⟨c5,c6,_,setRow_heap w l.b cur _ _ _ hh,by rw[Pm]at uS;simp only[kQ,aF,bV,fE,Pm];rw[cW];omega,λi x j c hx hc=>?_⟩⟩
    have mQ:j<X.E.sz v:=by rw[<-hX.u.len v x];exact(ak.1 hc).1
    have mul:∀{p q:Nat},p<q->p*X.E.sz v+j<q*X.E.sz v:=λh=>by
     have:=bu (X.E.sz v) (show _+1<=_ from h)
     rw[cY,hU]at this;omega
    have mul':∀{p q:Nat},q<=p->q*X.E.sz v<=p*X.E.sz v+j:=λh=>ck (bu _ h) (lI _ _)
    have rX:i<xs.length:=by rw[<-zX];exact(ak.1 hx).1
    rw[cZ,c1,Pm,mI _ _ _ (lo*X.E.sz v) (by
     have:lo*X.E.sz v<=cur.size:=by rw[c7];exact ck (bu _ (show lo<=xs.length by omega)) c3
     simp;omega),Pm]
    by_cases h1:i<lo
    ·rw[if_pos (mul h1),cd (mul h1)]
     rw[a_ (by simp;omega),cd h1]at hx;obtain⟨y,hy,Jo⟩:=c8 i x j c hx hc;exact⟨y,by simpa using hy,Jo.mono (λ_ h=>h) (gT _ λk hk=>setRow_other w l.b k _ hk) (λ_ _ h=>h)⟩
    ·have h1': ¬i*X.E.sz v+j<lo*X.E.sz v:=Nat.not_lt.2 (mul' ab)
     rw[if_neg h1']
     rw[br (by simp;omega)]at hx;simp only[bV,eV (show lo<=xs.length by omega)]at hx;by_cases h2:i<lo+len
     ·rw[if_pos (by rw[<-cY];exact mul h2)]
      rw[a_ (by simp;omega),mE,if_pos ab]at hx;cases hx;obtain⟨y,hy,Jo⟩:=N' j c hc;refine⟨y,?_,Jo _ _ _⟩
      have:=um z.cells len (i-lo) j (by rw[yq];exact mQ) ab
      rw[yq]at this;rw[<-hy,<-this]
      congr 1;rw[Nat.sub_mul]
      have:=bu (X.E.sz v) (show lo<=i by omega)
      omega
     ·rw[if_neg (by rw[<-cY];exact Nat.not_lt.2 (mul' ab))]
      rw[br (by simp;omega)]at hx;simp only[List.length_replicate,cg]at hx;obtain⟨y,hy,Jo⟩:=c8 _ x j c hx hc;refine⟨y,?_,Jo.mono (λ_ h=>h) (gT _ λk hk=>setRow_other w l.b k _ hk) (λ_ _ h=>h)⟩
      rw[cg,<-hy,bO]
      congr 1;rw[<-cY]
      have:=bu (X.E.sz v) (show lo+len<=i by omega)
      rw[show lo+len+(i-lo-len)=i by omega]
      omega
  ·cases hv
 ·cases hv
theorem A9{P:Program}(w:World)(dT sT ty elem:TypeId)(g o JK Rf:Nat)(a:Addr)(IP Dx:Nat)(cur:Array Value)(t:TypeId)(cs:ah Value){ie:TypeInfo}
 (hu:P.underlying dT=some (.slice elem)) (hi:P.info? elem=some ie) (hg:w.heap[g]?=some (.cells cur t (0,0))) (hn:cs.length=Nat.min IP JK*ie.size)
 (QF:∀j v,cs[j]?=some v->w.cell? (a.add j)=some v) (uS:o+cs.length<=cur.size) (h1:∀v∈cs,v.oneCell'=true):
 (Builtin.copy_ #[dT,sT] ty #[.slice (some ⟨g,o,none⟩) JK Rf,.slice (some a) IP Dx]).run P w=
  .ok (goInt (Nat.min IP JK)) (w.setRow g (cur.toList.take o++cs++cur.toList.drop (o+cs.length)).toArray):=by
 have hl:=run_loadCells_list (P:=P) w a cs QF;have mq:=run_storeCells_at P g o t cs 0 cur w hg (by simpa using uS) h1;simp[Builtin.copy_,run_underlying hu,Builtin.lenOf,Builtin.firstCells,sizeOf,typeInfo,hi,<-hn,hl,mq]
theorem AZ{P:Program}(w:World)(dT sT ty elem:TypeId)(da sa:Option Addr)(JK Rf IP Dx:Nat){ie:TypeInfo}(hu:P.underlying dT=some (.slice elem))(hi:P.info? elem=some ie)(hn:Nat.min IP JK=0):
 (Builtin.copy_ #[dT,sT] ty #[.slice da JK Rf,.slice sa IP Dx]).run P w=.ok (goInt 0) w:=by
 cases da<;>cases sa<;>simp[Builtin.copy_,run_underlying hu,Builtin.lenOf,Builtin.firstCells,sizeOf,typeInfo,hi,hn,loadCells,loadCellsFrom,storeCells]
theorem Inv.same{h':bI U El}(hi:Inv X B S0 w0 S ρ st a w)(hh:∀j,aN h' j=aN st.h j):Inv X B S0 w0 S ρ ⟨st.t,h'⟩ a w:=⟨hi.defers,hi.size,hi.below,hi.hB,hi.s0,hi.s1,hi.g0,hi.tmps,⟨λj b h=>hi.heap.get j b (by rw[<-hh];exact h),λi j b b' l l2 kY lG=>hi.heap.inj i j b b' l l2 (by rw[<-hh];exact kY) (by rw[<-hh];exact lG),hi.heap.lt⟩⟩
theorem CX{s x:Operand}{ty rk:TypeId}{k:St U El->Option (Fin U El)}(hX:bp P X)(ho:o.op=.call ⟨.builtin .copy,#[s,x],#[ty,rk]⟩)(hd: ∀e,o.dst=some e->e<X.nt)(hi:Inv X B S0 w0 S ρ st a w)
 (hv:GQ X o.dst ty (bm st.t s) (bm st.t x) st k=some r) {next:Act->World->Prop} {Q:Exit->Act->World->Prop}
 (hn:∀bx a' w',bK X B S0 w0 bx a' w'->k bx=some r->next a' w'):o.wp P a w next Q:=by
 have hs:Rel X.E S ρ w (bm st.t s) (a.eval s):=Rel.bm λi _=>hi.tmps i
 have CF:Rel X.E S ρ w (bm st.t x) (a.eval x):=Rel.bm λi _=>hi.tmps i
 unfold GQ at hv;split at hv
 ·rename_i u id lo len gM Bl;split at hv
  ·rename_i v xs hg;split at hv
   ·rename_i ys xF;obtain⟨iu,hk⟩:=aQ hv;simp only[aj,bU,decide_eq_true_eq]at iu;obtain⟨rfl,hle⟩:=iu;rw[Bl]at hs;obtain⟨ao,cp,MU,uw⟩:=zh hX hi.heap CF xF;obtain⟨ie,z,AP,hsz,AQ,hz,yq,N'⟩:=hX.u.info v;have hu:=hX.td _ _ gM;generalize Ei:Nat.min ys.length len=n at hk;have o7:n<=ys.length:=by rw[<-Ei];exact Nat.min_le_left _ _
    have pN:n<=len:=by rw[<-Ei];exact Nat.min_le_right _ _
    have fin:∀{cells w'},(Builtin.copy_ #[ty,rk] o.type #[a.eval s,a.eval x]).run P w=.ok (goInt n) w'->cells=(⟨st.t,iW st.h id (.rows v (List.take lo xs++(List.take n ys++List.drop (lo+n) xs)))⟩:St U El)->Inv X B S0 w0 S ρ cells a w'->o.wp P a w next Q:=by
     intro cells w' de LQ hinv;subst LQ;have LM:(execOp a.eval o).run P w=.ok (.value (goInt n)) w':=by
      unfold execOp;simp only[ho,resolve,invoke,builtin,Sem.run_bind,Sem.run_pure,Result.andThen_ok,lL,dx,jf,de]
     unfold Oper.wp;rw[LM]
     show next (a.put o.dst (goInt n)) w'
     exact hn _ _ _ ⟨S,ρ,hinv.put hd (Step.refl hinv.heap.lt) (.int _ _) (fa.nil hinv.heap.lt _) (by simp[aN])⟩ hk
    by_cases hn0:n=0
    ·subst hn0;have WN:∃da dl dc,a.eval s=.slice da dl dc/\dl=len:=by
      generalize a.eval s=q at hs;cases hs with
      |own=>exact⟨_,_,_,rfl,rfl⟩
      |nH=>exact⟨_,_,_,rfl,rfl⟩
     obtain⟨da,dl,dc,he,rfl⟩:=WN;refine fin (w':=w) ?_ rfl (hi.same λj=>?_)
     ·rw[he,MU]
      exact AZ w ty rk o.type (X.E.tid v) da ao dl dc ys.length cp hu AP Ei
     ·rw[jq]
      by_cases e:j=id
      ·subst e;rw[if_pos rfl,hg]
       simp
      ·rw[if_neg e]
    ·obtain⟨l,hl,hb⟩:=hi.heap.get _ _ hg;have pO:=hb;obtain⟨c1,c2,c3,c4⟩:=hb;have hpos:=hX.u.pos v;have RI:l.n≠0:=by
      have:0<xs.length*X.E.sz v:=fP ab hpos;omega
     obtain⟨c5,c6,cur,hh,c7,c8⟩:=c4 RI;obtain⟨ad,rfl,Lt⟩:=uw (by rintro rfl;simp at o7;omega)
     have QI:Fc X.E S ρ w v (ys.take n) ad:=λi y j c hi hj=>by
      rw[fQ]at hi;split at hi
      ·exact Lt i y j c hi hj
      ·cases hi
     obtain⟨news,QP,TY,Fj,Ps⟩:=uF hX QI;have Js:news.length=n*X.E.sz v:=by rw[QP,bV,eV o7]
     generalize hq:a.eval s=q at hs;cases hs with
     |nH _ _ ao cap=>omega
     |own _ _ _ cap l' dq e1 e2 e3=>
      rw[hl]at dq;cases dq;have uS:lo*l.s+news.length<=cur.size:=by
       rw[Js,c7,c1,<-cY]
       exact ck (bu _ (show lo+n<=xs.length by omega)) c3
      have de:=A9 (P:=P) w ty rk o.type (X.E.tid v) l.b (lo*l.s) len cap ad ys.length cp cur _ news hu AP hh (by rw[Js,Ei,hsz]) TY uS Fj;rw[Ei]at de;refine fin (by rw[hq,MU];exact de) rfl (hi.setRow hg hl pO RI hh ?_)
      have zX:(List.take lo xs++(List.take n ys++List.drop (lo+n) xs)).length=xs.length:=by simp;omega
      have gT:∀W:World,(∀k,k≠l.b->W.heap[k]?=w.heap[k]?)->∀k,S k->W.heap[k]?=w.heap[k]?:=λW hW k hk=>hW k (by rintro rfl;exact c6 hk)
      refine⟨c1,by rw[zX];exact c2,by rw[zX];exact c3,λ_=>⟨c5,c6,_,setRow_heap w l.b cur _ _ _ hh,by rw[Js]at uS;simp only[kQ,aF,bV,fE,Js];rw[cW];omega,λi x j c hx hc=>?_⟩⟩
      have mQ:j<X.E.sz v:=by rw[<-hX.u.len v x];exact(ak.1 hc).1
      have mul:∀{p q:Nat},p<q->p*X.E.sz v+j<q*X.E.sz v:=λh=>by
       have:=bu (X.E.sz v) (show _+1<=_ from h)
       rw[cY,hU]at this;omega
      have mul':∀{p q:Nat},q<=p->q*X.E.sz v<=p*X.E.sz v+j:=λh=>ck (bu _ h) (lI _ _)
      have rX:i<xs.length:=by rw[<-zX];exact(ak.1 hx).1
      rw[cZ,c1,Js,mI _ _ _ (lo*X.E.sz v) (by
       have:lo*X.E.sz v<=cur.size:=by rw[c7];exact ck (bu _ (show lo<=xs.length by omega)) c3
       simp;omega),Js]
      by_cases h1:i<lo
      ·rw[if_pos (mul h1),cd (mul h1)]
       rw[a_ (by simp;omega),cd h1]at hx;obtain⟨y,hy,Jo⟩:=c8 i x j c hx hc;exact⟨y,by simpa using hy,Jo.mono (λ_ h=>h) (gT _ λk hk=>setRow_other w l.b k _ hk) (λ_ _ h=>h)⟩
      ·have h1': ¬i*X.E.sz v+j<lo*X.E.sz v:=Nat.not_lt.2 (mul' ab)
       rw[if_neg h1']
       rw[br (by simp;omega)]at hx;simp only[bV,eV (show lo<=xs.length by omega)]at hx;by_cases h2:i<lo+n
       ·rw[if_pos (by rw[<-cY];exact mul h2)]
        rw[a_ (by simp;omega)]at hx;obtain⟨y,hy,Jo⟩:=Ps _ x j c hx hc;refine⟨y,?_,Jo.mono (λ_ h=>h) (gT _ λk hk=>setRow_other w l.b k _ hk) (λ_ _ h=>h)⟩
        rw[<-hy]
        congr 1;rw[Nat.sub_mul]
        have:=bu (X.E.sz v) (show lo<=i by omega)
        omega
       ·rw[if_neg (by rw[<-cY];exact Nat.not_lt.2 (mul' ab))]
        rw[br (by simp;omega)]at hx;simp only[bV,eV o7,cg]at hx;obtain⟨y,hy,Jo⟩:=c8 _ x j c hx hc;refine⟨y,?_,Jo.mono (λ_ h=>h) (gT _ λk hk=>setRow_other w l.b k _ hk) (λ_ _ h=>h)⟩
        rw[cg,<-hy,bO]
        congr 1;rw[<-cY]
        have:=bu (X.E.sz v) (show lo+n<=i by omega)
        rw[show lo+n+(i-lo-n)=i by omega]
        omega
   ·cases hv
  ·cases hv
 ·cases hv
end
end Go.Proofs.YtfmamkmmohilgaaGreatDoor
namespace Go.Proofs.YtfmamkmmohilgaaGreatDoor
open IntKind
set_option linter.all false
open Go.RowKit
section
variable{U:Type}{El:U->Type}{P:Program}{X:Ctx U El}{S S0:Nat->Prop}{ρ:eJ}{w w0:World} [DecidableEq U] [tD]
variable{a:Act}{st:St U El}{B:Bd}{r:Fin U El}
theorem Inv.zJ{t':eH U El}(hi:Inv X B S0 w0 S ρ st a w)(ht:∀i,Rel X.E S ρ w (cC t' i) (a.tmps.getD i undef)):Inv X B S0 w0 S ρ ⟨t',st.h⟩ a w:=⟨hi.defers,hi.size,hi.below,hi.hB,hi.s0,hi.s1,hi.g0,ht,hi.heap⟩
theorem Inv.share{id:Nat}{l:Loc}{b0:qm U El}(hX:bp P X)(hi:Inv X B S0 w0 S ρ st a w)(hg:aN st.h id=some b0)(hl:ρ id=some l):
 Inv X B S0 w0 (λb=>S b\/(l.n≠0/\b=l.b)) (ρ.del id) (st.forget id) a w:=by
 have hf:=hi.forget hX id;obtain⟨l0,e0,hb⟩:=hi.heap.get _ _ hg;rw[hl]at e0;cases e0;refine⟨hf.defers,hf.size,hf.below,hf.hB,λb h=>.inl (hf.s0 b h),λb h=>?_,hf.g0,λi=>(hf.tmps i).mono (λ_ h=>.inl h) (λ_ _=>rfl) (λ_ _ h=>h),⟨λj b lG=>?_,hf.heap.inj,λb h=>?_⟩⟩
 ·rcases h with h|⟨hn,rfl⟩
  ·exact hf.s1 b h
  ·exact .inr (hb.lt hn).2.1
 ·obtain⟨l',dq,pO⟩:=hf.heap.get j b lG;refine⟨l',dq,pO.mono (λ_ h=>.inl h) (λ_ _=>rfl) (λ_ _ h=>h) λhn=>⟨rfl,λh=>?_⟩⟩
  rcases h with h|⟨oK,e⟩
  ·exact(pO.lt hn).2.2 h
  ·simp only[St.forget,nW,lz,aJ]at lG;obtain⟨b0,h0,_⟩:=lG;split at h0
   ·cases h0
   ·rename_i e1;exact hi.heap.inj j id b0 _ l' l h0 hg e1 (by simpa[eJ.del,e1]using dq) hl hn oK e
 ·rcases h with h|⟨hn,rfl⟩
  ·exact hf.heap.lt b h
  ·exact(hb.lt hn).1
theorem yy{id:Nat}{l:Loc}{u:U}{xs:ah (El u)}{v:Value}{ρ':eJ}(hX:bp P X)(hb:dt X.E S ρ w B l (.rows u xs))(hl:ρ id=some l)(hr:Rel X.E S ρ w (.cf id) v):Rel X.E (λb=>S b\/(l.n≠0/\b=l.b)) ρ' w (.au u xs) v:=by
 obtain⟨h1,h2,h3,h4⟩:=hb;cases wC:xs with
 |nil=>
  cases hr with
  |j7 _ l' dq _ _=>exact .jy _ _ _
  |cf _ cap l' dq e1 e2=>
   rw[hl]at dq;cases dq;rw[h2,wC]
   exact .jy _ _ _
 |cons x0 xs0=>
  have hn:l.n≠0:=by
   have:=fP (show 0<xs.length by rw[wC];simp) (hX.u.pos u)
   omega
  obtain⟨h5,h6,c,hh,h7,h8⟩:=h4 hn;cases hr with
  |j7 _ l' dq e1 _=>rw[hl]at dq;cases dq;exact absurd e1 hn
  |cf _ cap l' dq e1 e2=>
   rw[hl]at dq;cases dq;rw[<-wC,h2]at*
   have hv:∀i j,∃vv,∀x c',xs[i]?=some x->(X.E.enc u x)[j]?=some c'->c[i*X.E.sz u+j]?=some vv/\Rel X.E S ρ w c' vv:=λi j=>by
    cases hx:xs[i]? with
    |none=>exact⟨undef,λx c h=>by cases h⟩
    |some x=>
     cases hc:(X.E.enc u x)[j]? with
     |none=>exact⟨undef,λx' c h h'=>by cases h;rw[hc]at h';cases h'⟩
     |some c'=>
      obtain⟨vv,h9,Q6⟩:=h8 i x j c' hx hc;exact⟨vv,λx' VT h h'=>by cases h;rw[hc]at h';cases h';exact⟨h9,Q6⟩⟩
   refine .au u xs l.b 0 cap (λi j=>Classical.choose (hv i j)) (.inr ⟨hn,rfl⟩) e2 (λi x j c' hx hc=>?_) λi x j c' hx hc=>?_
   ·rw[bZ,cell_of_row w l.b _ c _ (0,0) hh]
    exact(eF (hv i j) x c' hx hc).1
   ·exact((eF (hv i j) x c' hx hc).2.mono (λ_ h=>.inl h) (λ_ _=>rfl) (λ_ _ h=>h)).ew hX.u (hX.u.cell u x c' (aD hc))
theorem Qc{id:Nat}{l:Loc}{u v:U}{es:ah (El u×El v)}{vv:Value}{ρ':eJ}(hX:bp P X)(hb:dt X.E S ρ w B l (.map u v es))(hl:ρ id=some l)(hr:Rel X.E S ρ w (.mp id) vv):Rel X.E (λb=>S b\/(l.n≠0/\b=l.b)) ρ' w (.sr u v es) vv:=by
 obtain⟨h1,h2,h3,eQ,clock,h4,h5,h6⟩:=hb;cases hr with
 |mp _ l' dq=>
  rw[hl]at dq;cases dq;exact .sr u v es l.b eQ clock (.inr ⟨ab,rfl⟩) h4 h5 (λi e p hi hp=>⟨(h6 i e p hi hp).1.fit.1,(h6 i e p hi hp).2.fit.1⟩)
   (λi e p j c x hi hp hc hx=>(((h6 i e p hi hp).1.fit.2 j c x hc hx).mono (λ_ h=>.inl h) (λ_ _=>rfl) (λ_ _ h=>h)).ew hX.u (hX.u.cell u p.1 c (aD hc)))
   (λi e p j c x hi hp hc hx=>(((h6 i e p hi hp).2.fit.2 j c x hc hx).mono (λ_ h=>.inl h) (λ_ _=>rfl) (λ_ _ h=>h)).ew hX.u (hX.u.cell v p.2 c (aD hc)))
theorem NJ{id lo len:Nat}{l:Loc}{u:U}{xs:ah (El u)}{v:Value}{ρ':eJ}(hX:bp P X)(hb:dt X.E S ρ w B l (.rows u xs))(hl:ρ id=some l)(hle:lo+len<=xs.length)(hr:Rel X.E S ρ w (.own id lo len) v):Rel X.E (λb=>S b\/(l.n≠0/\b=l.b)) ρ' w (.au u ((xs.drop lo).take len)) v:=by
 obtain⟨h1,h2,h3,h4⟩:=hb;have hlen:((xs.drop lo).take len).length=len:=by simp;omega
 cases hr with
 |nH _ _ ao cap=>rw[List.take_zero];exact .jy _ _ _
 |own _ _ _ cap l' dq e1 e2 e3=>
  rw[hl]at dq;cases dq;by_cases h0:len=0
  ·subst h0;rw[List.take_zero];exact .jy _ _ _
  ·have hn:l.n≠0:=by
    have:=fP (show 0<xs.length by omega) (hX.u.pos u)
    omega
   obtain⟨h5,h6,c,hh,h7,h8⟩:=h4 hn;have aN:∀i x,((xs.drop lo).take len)[i]?=some x->xs[lo+i]?=some x:=λi x h=>by
    rw[fQ]at h;split at h
    ·rw[cg]at h;exact h
    ·cases h
   have hv:∀i j,∃vv,∀x c',((xs.drop lo).take len)[i]?=some x->(X.E.enc u x)[j]?=some c'->c[(lo+i)*X.E.sz u+j]?=some vv/\Rel X.E S ρ w c' vv:=λi j=>by
    cases hx:((xs.drop lo).take len)[i]? with
    |none=>exact⟨undef,λx c h=>by cases h⟩
    |some x=>
     cases hc:(X.E.enc u x)[j]? with
     |none=>exact⟨undef,λx' c h h'=>by cases h;rw[hc]at h';cases h'⟩
     |some c'=>
      obtain⟨vv,h9,Q6⟩:=h8 (lo+i) x j c' (aN i x hx) hc;exact⟨vv,λx' VT h h'=>by cases h;rw[hc]at h';cases h';exact⟨h9,Q6⟩⟩
   have key:=Rel.au (E:=X.E) (S:=λb=>S b\/(l.n≠0/\b=l.b)) (ρ:=ρ') (w:=w) u ((xs.drop lo).take len) l.b (lo*X.E.sz u) cap (λi j=>Classical.choose (hv i j)) (.inr ⟨hn,rfl⟩) (by rw[hlen];exact e2) (λi x j c' hx hc=>by
    rw[show lo*X.E.sz u+i*X.E.sz u+j=(lo+i)*X.E.sz u+j by rw[cY],cell_of_row w l.b _ c _ (0,0) hh]
    exact(eF (hv i j) x c' hx hc).1) (λi x j c' hx hc=>((eF (hv i j) x c' hx hc).2.mono (λ_ h=>.inl h) (λ_ _=>rfl) (λ_ _ h=>h)).ew hX.u (hX.u.cell u x c' (aD hc)))
   rw[hlen,<-h1]at key;exact key
theorem sx{s:Nat}{u:U}{k:St U El->Option (Fin U El)}(hX:bp P X)(hs:bK X B S0 w0 st a w)(hv:vF st s u k=some r): ∃bx,bK X B S0 w0 bx a w/\k bx=some r:=by
 obtain⟨S,ρ,hi⟩:=hs;unfold vF at hv;split at hv
 ·exact⟨st,⟨S,ρ,hi⟩,hv⟩
 ·rename_i he;refine⟨_,⟨S,ρ,hi.zJ (t':=(s,.au u [])::st.t) λi=>?_⟩,hv⟩
  simp only[cC]
  by_cases e:s=i
  ·subst e;rw[aG]
   have:=hi.tmps s;rw[he]at this;generalize a.tmps.getD s undef=q at this⊢;cases this;exact .jy _ _ _
  ·rw[aO e];exact hi.tmps i
 ·rename_i id he;split at hv
  ·rename_i v xs hg;obtain⟨l,hl,hb⟩:=hi.heap.get _ _ hg;have uw:=hi.share hX hg hl;refine⟨_,⟨_,_,uw.zJ (t':=(s,.au v xs)::(st.forget id).t) λi=>?_⟩,hv⟩
   simp only[cC]
   by_cases e:s=i
   ·subst e;rw[aG]
    have:=hi.tmps s;rw[he]at this;exact yy hX hb hl this
   ·rw[aO e];exact uw.tmps i
  ·cases hv
 ·rename_i id lo len he;split at hv
  ·rename_i v xs hg;obtain⟨iu,hv⟩:=aQ hv;obtain⟨l,hl,hb⟩:=hi.heap.get _ _ hg;have uw:=hi.share hX hg hl;refine⟨_,⟨_,_,uw.zJ (t':=(s,.au v ((xs.drop lo).take len))::(st.forget id).t) λi=>?_⟩,hv⟩
   simp only[cC]
   by_cases e:s=i
   ·subst e;rw[aG]
    have:=hi.tmps s;rw[he]at this;exact NJ hX hb hl (by simpa[bU]using iu) this
   ·rw[aO e];exact uw.tmps i
  ·cases hv
 ·exact⟨st,⟨S,ρ,hi⟩,hv⟩
 ·exact⟨st,⟨S,ρ,hi⟩,hv⟩
 ·rename_i id he;split at hv
  ·rename_i u v es hg;obtain⟨l,hl,hb⟩:=hi.heap.get _ _ hg;have uw:=hi.share hX hg hl;refine⟨_,⟨_,_,uw.zJ (t':=(s,.sr u v es)::(st.forget id).t) λi=>?_⟩,hv⟩
   simp only[cC]
   by_cases e:s=i
   ·subst e;rw[aG]
    have:=hi.tmps s;rw[he]at this;exact Qc hX hb hl this
   ·rw[aO e];exact uw.tmps i
  ·cases hv
 ·cases hv
theorem rQ{s off:Nat}{u:U}{k:St U El->Option (Fin U El)}(hX:bp P X)(hs:bK X B S0 w0 st a w)(hv:tF st s off u k=some r): ∃bx,bK X B S0 w0 bx a w/\k bx=some r:=by
 obtain⟨S,ρ,hi⟩:=hs;unfold tF at hv;split at hv
 ·rename_i cs he;have hts:=hi.tmps s;rw[he]at hts;generalize hq:a.tmps.getD s undef=q at hts;cases hts with
  |agg _ vs hlen hrel=>
   split at hv
   ·exact⟨st,⟨S,ρ,hi⟩,hv⟩
   ·rename_i hc;have W6:off<cs.length:=(ak.1 hc).1;refine⟨_,⟨S,ρ,hi.zJ (t':=(s,.agg (cs.set off (.au u [])))::st.t) λi=>?_⟩,hv⟩
    simp only[cC]
    by_cases e:s=i
    ·subst e;rw[aG,hq]
     refine .agg _ vs (by simp[hlen]) λm c v hm eC=>?_
     by_cases em:m=off
     ·subst em;rw[fm W6]at hm;cases hm;have:=hrel m _ v hc eC;cases this;exact .jy _ _ _
     ·rw[gv (cq em)]at hm;exact hrel m c v hm eC
    ·rw[aO e];exact hi.tmps i
   ·rename_i id hc;split at hv
    ·rename_i v xs hg;have W6:off<cs.length:=(ak.1 hc).1;obtain⟨l,hl,hb⟩:=hi.heap.get _ _ hg;have uw:=hi.share hX hg hl;refine⟨_,⟨_,_,uw.zJ (t':=(s,.agg ((cs.map (AV.kill id)).set off (.au v xs)))::(st.forget id).t) λi=>?_⟩,hv⟩
     simp only[cC]
     by_cases e:s=i
     ·subst e;rw[aG,hq]
      refine .agg _ vs (by simp[hlen]) λm c v' hm eC=>?_
      by_cases em:m=off
      ·subst em;rw[fm (by simpa using W6)]at hm;cases hm;exact yy hX hb hl (hrel m _ v' hc eC)
      ·rw[gv (cq em)]at hm;simp only[bo,aJ]at hm;obtain⟨c0,hc0,rfl⟩:=hm;exact((hrel m c0 v' hc0 eC).kill hX.u id).mono (λ_ h=>.inl h) (λ_ _=>rfl) (λ_ _ h=>h)
     ·rw[aO e];exact uw.tmps i
    ·exact⟨st,⟨S,ρ,hi⟩,hv⟩
   ·exact⟨st,⟨S,ρ,hi⟩,hv⟩
 ·exact⟨st,⟨S,ρ,hi⟩,hv⟩
theorem xP(hX:bp P X){s:Nat}: ∀(l:ah Nat) (st:St U El) (k:St U El->Option (Fin U El)),bK X B S0 w0 st a w->nR st s l k=some r-> ∃bx,bK X B S0 w0 bx a w/\k bx=some r:=by
 intro l;induction l with
 |nil=>intro st k hs hv;exact⟨st,hs,hv⟩
 |cons off l ih=>
  intro st k hs hv;unfold nR at hv;split at hv
  ·split at hv
   ·split at hv
    ·obtain⟨qq,h1,h2⟩:=rQ hX hs hv;exact ih qq k h1 h2
    ·exact ih st k hs hv
   ·exact ih st k hs hv
  ·exact ih st k hs hv
theorem kE(hX:bp P X){s:Nat}{k:St U El->Option (Fin U El)}(hs:bK X B S0 w0 st a w)(hv:nQ st s k=some r):∃bx,bK X B S0 w0 bx a w/\k bx=some r:=by
 unfold nQ at hv;split at hv
 ·split at hv
  ·exact sx hX hs hv
  ·exact⟨st,hs,hv⟩
 ·exact xP hX _ st k hs hv
 ·exact⟨st,hs,hv⟩
theorem wP(hX:bp P X):∀(l:ah (Nat×Operand)) (st:St U El) (k:St U El->Option (Fin U El)),bK X B S0 w0 st a w->rq st l k=some r->∃bx,bK X B S0 w0 bx a w/\k bx=some r:=by
 intro l;induction l with
 |nil=>intro st k hs hv;exact⟨st,hs,hv⟩
 |cons p l ih=>
  intro st k hs hv;obtain⟨i,o⟩:=p;cases o with
  |tmp s=>
   obtain⟨qq,h1,h2⟩:=kE hX hs hv;exact ih qq k h1 h2
  |const v=>exact ih st k hs hv
  |global g=>exact ih st k hs hv
  |func f=>exact ih st k hs hv
theorem mZ{o:Oper}{k:St U El->Option (Fin U El)}(hX:bp P X)(hs:bK X B S0 w0 st a w)(hv:ox o st k=some r):∃bx,bK X B S0 w0 bx a w/\k bx=some r:=by
 unfold ox at hv;split at hv
 ·split at hv
  ·exact kE hX hs hv
  ·exact⟨st,hs,hv⟩
 ·exact wP hX _ st k hs hv
 ·exact kE hX hs hv
 ·exact kE hX hs hv
 ·exact⟨st,hs,hv⟩
end
end Go.Proofs.YtfmamkmmohilgaaGreatDoor
namespace Go.Proofs.YtfmamkmmohilgaaGreatDoor
open IntKind
set_option linter.all false
open Go.RowKit
section
variable{U:Type}{El:U->Type}{P:Program}{X:Ctx U El}{S S0:Nat->Prop}{ρ:eJ}{w w0:World} [DecidableEq U] [tD]
variable{o:Oper}{a:Act}{st:St U El}{B:Bd}{d:Nat}{r:Fin U El}
theorem EO(hg:oJ P X.E)(u:U): ∀(n:Nat) (cs:ah (AV U El)) (xs:ah (El u)),yD X.E u n cs=some xs->
 xs.length=n/\∀(i:Nat) x (j:Nat) c,xs[i]?=some x->(X.E.enc u x)[j]?=some c->∃c',cs[i*X.E.sz u+j]?=some c'/\(c'=c\/(c'=.cL/\∃u',c=.au u' [])):=by
 intro n;induction n with
 |zero=>intro cs xs h;cases h;exact⟨rfl,λi x j c hx=>by simp at hx⟩
 |succ n ih=>
  intro cs xs h;simp only[yD]at h;split at h
  ·rename_i y hy;split at h
   ·rename_i ys xF;cases h;obtain⟨h1,h2⟩:=ih _ _ xF;obtain⟨h3,h4⟩:=hg.dec _ _ _ hy;refine⟨by simp[h1],λi x j c hx hc=>?_⟩
    have hj:j<X.E.sz u:=by
     rw[<-hg.len u x]
     exact(ak.1 hc).1
    cases i with
    |zero=>
     cases hx;obtain⟨c',e1,e2⟩:=h4 j c hc;refine⟨c',?_,e2⟩
     rw[cd hj]at e1;simpa using e1
    |succ i=>
     obtain⟨c',e1,e2⟩:=h2 i x j c (by simpa using hx) hc;refine⟨c',?_,e2⟩
     rw[cg]at e1;rw[<-e1]
     congr 1;rw[cY]
     omega
   ·cases h
  ·cases h
theorem EY{ty:TypeId}{x:Operand}{k:St U El->Option (Fin U El)}(hX:bp P X)(ho:o.op=.slice ty x none none none)(hd:o.dst=some d)(hi:Inv X B S0 w0 S ρ st a w)(hv:MB X d ty (bm st.t x) st k=some r){next:Act->World->Prop}{Q:Exit->Act->World->Prop}
 (hn:∀bx a' w',bK X B S0 w0 bx a' w'->k bx=some r->next a' w'):o.wp P a w next Q:=by
 have CF:Rel X.E S ρ w (bm st.t x) (a.eval x):=Rel.bm λi _=>hi.tmps i
 unfold MB at hv;split at hv
 ·rename_i n es ea sz u id gM hau hx;split at hv
  ·rename_i tg cs hg;obtain⟨iu,gq⟩:=aQ hv;simp only[aj]at iu;obtain⟨c1,c2,c3,c4⟩:=iu;have c1:=al c1;have c2:=al c2;have c3:0<n:=aV c3;have c4:d<X.nt:=aV c4;split at gq
   ·rename_i xs wC;rw[hx]at CF;generalize hq:a.eval x=q at CF;cases CF with
    |ptr _ _ l hl=>
     obtain⟨l',dq,hb⟩:=hi.heap.get _ _ hg;rw[hl]at dq;cases dq;have xW:=hb;obtain⟨_,h2,h3⟩:=hb;obtain⟨e,hu,_,⟨inf,En,hsz⟩,_⟩:=hX.td _ _ gM;obtain⟨hlen,aN⟩:=EO hX.u u n cs xs wC;have Ia:0<es:=by rw[<-c1];exact hX.u.pos u
     have hn0:l.n≠0:=by
      have:=fP c3 Ia;omega
     obtain⟨h4,h5,c,ce,hh,h6,h7⟩:=h3 hn0;have uw:=hi.share hX hg hl;have de:(execOp a.eval o).run P w=.ok (.value (.slice (some ⟨l.b,0,none⟩) n n)) w:=by
      have Xe:¬n=0:=ab
      simp[execOp,ho,Instr.sliceAt,run_underlying hu,Instr.sureAddr,hq,Instr.sliceBounds,kT En,Xe,gV]
     unfold Oper.wp;rw[de]
     show next (a.put o.dst _) w
     refine hn _ _ _ ⟨λb=>S b\/(l.n≠0/\b=l.b),ρ.del id,?_⟩ gq;refine⟨by rw[hd];exact uw.defers,by rw[hd];simp[Act.put,hi.size],uw.below,uw.hB,uw.s0,uw.s1,uw.g0,?_,uw.heap⟩
     have qv:∀i j,∃vv,∀x c',xs[i]?=some x->(X.E.enc u x)[j]?=some c'->c[i*X.E.sz u+j]?=some vv/\Rel X.E S ρ w c' vv:=λi j=>by
      cases Lq:xs[i]? with
      |none=>exact⟨undef,λx c h=>by cases h⟩
      |some y=>
       cases hc:(X.E.enc u y)[j]? with
       |none=>exact⟨undef,λx' c h h'=>by cases h;rw[hc]at h';cases h'⟩
       |some c'=>
        obtain⟨c0,e1,e2⟩:=aN i y j c' Lq hc;obtain⟨vv,e3,e4⟩:=h7 _ _ e1;refine⟨vv,λx' VT h h'=>?_⟩
        cases h;rw[hc]at h';cases h';refine⟨e3,?_⟩
        rcases e2 with rfl|⟨rfl,u',rfl⟩
        ·exact e4
        ·cases e4;exact .jy _ _ _
     have hr:Rel X.E (λb=>S b\/(l.n≠0/\b=l.b)) (ρ.del id) w (.au u xs) (.slice (some ⟨l.b,0,none⟩) n n):=by
      have:=Rel.au (E:=X.E) (S:=λb=>S b\/(l.n≠0/\b=l.b)) (ρ:=ρ.del id) (w:=w) u xs l.b 0 n (λi j=>Classical.choose (qv i j)) (.inr ⟨hn0,rfl⟩) ab (λi x j c' hx hc=>by
       rw[bZ,cell_of_row w l.b _ c _ (0,0) hh]
       exact(eF (qv i j) x c' hx hc).1) (λi x j c' hx hc=>((eF (qv i j) x c' hx hc).2.mono (λ_ h=>.inl h) (λ_ _=>rfl) (λ_ _ h=>h)).ew hX.u (hX.u.cell u x c' (aD hc)))
      rw[hlen]at this;exact this
     have:=mW (d:=o.dst) (v:=.slice (some ⟨l.b,0,none⟩) n n) (av:=.au u xs) (λe he=>by rw[hi.size];rw[hd]at he;cases he;exact c4) uw.tmps hr;rw[hd]at this⊢;exact this
   ·cases gq
  ·cases hv
 ·cases hv
end
end Go.Proofs.YtfmamkmmohilgaaGreatDoor
