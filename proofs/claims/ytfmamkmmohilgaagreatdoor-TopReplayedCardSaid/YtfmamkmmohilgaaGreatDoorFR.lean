/- The law's arguments opened to lists and structs. Conditions: that they read as their types say. -/
import Derived.Test.YtfmamkmmohilgaaGreatDoorTI
import Derived.Deep.Fields
import Derived.LaidMore
namespace Go.Proofs.YtfmamkmmohilgaaGreatDoor
open Go.Proofs.Tryz IntKind
set_option linter.all false
variable [tD]
set_option maxRecDepth 100000
open Go.ChangeShapes Go.WideShapes Go.Deep Go.RowKit Go.ChangeMaps
theorem wo{H:Type}{enc:TypeId×Value->H}{a:Assume}{C:Checked}{os:Os}{f:FuncId}{fn:Func}{s:ChangeSpec}{conds:ah PathCond}{apart fresh handsOn again:Bool}{X:World->Array Value->Prop}
 (hX:∀(w w':World) (args:Array Value),w.heap=w'.heap->X w args->X w' args)
 (own:ownKnob C.prog.godebug=none) (started:os.Started) (Qa:C.prog.inits.idxOf? f=none) (Xu:C.prog.funcs[f]?=some fn)
 (witness:∃(w:World) (tape:Tape) (i:Input),w.os=os/\(w.forCall tape i).Shaped C.prog/\i.vars=[]/\Input.okWide C.prog (w.forCall tape i) .any w.heap.size f i/\
  ((s.pre enc C.prog fn conds apart (w.forCall tape i).memory i.args/\X (w.forCall tape i).memory i.args)/\sizedMet enc C.prog fn (OpenSpec.ofChange s) apart (w.forCall tape i).memory i.args)/\a.holds C.prog (lone (Frame.enter C.prog f i.args .normal) [] (w.forCall tape i)))
 (contract:∀(W:World) (base:Nat) (args:Array Value) (ds gs:ah (DataW H)) (before:ah MemPlace),
  (∀(j:Nat) t v,fn.params[j]?=some t->args[j]?=some v->Value.okWide C.prog W .any base t v)->
  DataW.Whole enc C.prog fn.params.toList s.vars apart W args.toList ds gs before->
  conds.all (PathCond.test C.prog ⟨fn.params.toList,ds,s.plain.varTypes C.prog,gs⟩)=true->
  (DataW.weightsEach C.prog (fn.params.toList++s.plain.varTypes C.prog) (ds++gs)).all (· <=reachBytes)=true->X W args->W.ShapedOpen C.prog->
  a.holds C.prog (lone (Frame.enter C.prog f args .normal) [] W)->
  Calls C.prog f args W λe W'=>∃v,e=.returned v/\s.post enc C.prog fn apart fresh handsOn again W args v W'):
 ReturnsInHanded a C os f .any (λw args=>(s.pre enc C.prog fn conds apart w args/\X w args)/\sizedMet enc C.prog fn (OpenSpec.ofChange s) apart w args) (s.post enc C.prog fn apart fresh handsOn again):=by
 refine returnsInHanded_of_calls own started Qa witness ?_;intro w tape i _ uw _ hok WW QU;obtain⟨_,_,_,fn',Xt,_,_,_,_,sd⟩:=hok;have e:fn'=fn:=ez (Xt.symm.trans Xu)
 subst e;obtain⟨⟨⟨ds,gs,before,hw,hc⟩,hx⟩,hz⟩:=WW;have WB:=DataW.Whole.of_heap (w':=w.forCall tape i) (by rfl) hw;refine(contract (w.forCall tape i) w.heap.size i.args ds gs before sd WB hc (hz.weights hw) (hX _ _ _ (by rfl) hx) uw QU).mono λe W' ⟨v,he,hp⟩=>?_
 subst he;exact ChangeSpec.post_blind hp
theorem own:ownKnob prog.godebug=none:=aa
theorem laidOut:laidOutB prog=true:=aa
theorem N0{α:Type}{Q:Nat->α->Prop}: ∀n,(∀i,i<n-> ∃x,Q i x)-> ∃l:ah α,l.length=n/\ ∀(i:Nat) x,l[i]?=some x->Q i x:=by
 intro n;induction n with
 |zero=>intro _;exact⟨[],rfl,ae⟩
 |succ n ih=>
  intro h;obtain⟨l,hl,hq⟩:=ih (λi hi=>h i ab)
  obtain⟨x,hx⟩:=h n ab
  refine⟨l++[x],by simp[hl],λi y hy=>?_⟩
  by_cases hi:i<n
  ·rw[a_ ab]at hy;exact hq i y hy
  ·rw[br ab]at hy;have:i=n:=by
    have:=(ak.1 hy).1;simp at this;omega
   subst this;simp[hl]at hy;subst hy;exact hx
theorem Ms{w:World}{a:Addr}{v:Value}(h:w.cell? a=some v):a.block<w.heap.size:=by
 rcases Nat.lt_or_ge a.block w.heap.size with h'|h'
 ·exact h'
 ·simp[World.cell?,fW h']at h
theorem Qh{u:U}{w:World}{a:Addr}{len cap:Nat}(si:len<=cap)(hsz:0<E.sz u)(T_: ∀x,(E.enc u x).length=E.sz u)
 (key:∀i,i<len->∃x:El u,∀(j:Nat) c,(E.enc u x)[j]?=some c->∃v,w.cell? (a.add (i*E.sz u+j))=some v/\Rel E (λb=>b<w.heap.size) (λ_=>none) w c v):
 ∃l:ah (El u),Rel E (λb=>b<w.heap.size) (λ_=>none) w (.au u l) (.slice (some a) len cap):=by
 obtain⟨l,hlen,hq⟩:=N0 len key;by_cases h0:len=0
 ·subst h0;have:l=[]:=bq hlen;subst this;exact⟨[],.jy _ _ _⟩
 ·have h0l:0<l.length:=ab
  have h1l:0<(E.enc u l[0]).length:=by rw[T_ l[0]];exact hsz
  have XE:=az h1l;obtain⟨v0,hc0,_⟩:=hq 0 l[0] (az ab) 0 _ XE;have hlt:a.block<w.heap.size:=by have:=Ms hc0;simpa[Addr.add]using this
  have Po:a.spot=none:=by have:=World.cell?_spot hc0;simpa[Addr.add]using this
  obtain⟨b,off,spot⟩:=a;simp only at Po;subst Po;refine⟨l,?_⟩
  rw[<-hlen]
  have hv:∀i j,∃v,∀x c,l[i]?=some x->(E.enc u x)[j]?=some c->w.cell? ⟨b,off+i*E.sz u+j,none⟩=some v/\Rel E (λb=>b<w.heap.size) (λ_=>none) w c v:=λi j=>by
   cases hx:l[i]? with
   |none=>exact⟨undef,λx c h=>by cases h⟩
   |some x=>
    cases hc:(E.enc u x)[j]? with
    |none=>exact⟨undef,λx' c h h'=>by cases h;rw[hc]at h';cases h'⟩
    |some c=>
     obtain⟨v,h5,h6⟩:=hq i x hx j c hc;refine⟨v,λx' c' h h'=>?_⟩
     cases h;rw[hc]at h';cases h';refine⟨?_,h6⟩
     rw[gV,<-fb]at h5;exact h5
  refine .au _ _ b off cap (λi j=>Classical.choose (hv i j)) hlt (ck (Nat.le_of_eq hlen) si) (λi x j c hx hc=>(eF (hv i j) x c hx hc).1) (λi x j c hx hc=>(eF (hv i j) x c hx hc).2)
def Reads(u:U)(t:TypeId):Prop:=∀(H:Type) (enc:TypeId×Value->H) (w:World) (base:Nat) (spare:Nat->Bool) (held:Bool) (fuel:Nat) (cs:ah Value) (x:DataW H×ah MemPlace),
 DataW.trod enc prog w base spare held fuel t cs=some x->∃y:El u,∀(j:Nat) c,(E.enc u y)[j]?=some c->∃v,cs[j]?=some v/\Rel E (λb=>b<w.heap.size) (λ_=>none) w c v
theorem gZ{u:U}{t e:TypeId}(hu:Reads u e)(hsz:0<E.sz u)(hlen:∀x,(E.enc u x).length=E.sz u)(ht:prog.underlying t=some (.slice e))(hc:prog.cellsOf e=E.sz u){H:Type}{enc:TypeId×Value->H}{w:World}{base:Nat}{spare:Nat->Bool}{held:Bool}{fuel:Nat}{cs:ah Value}{x:DataW H×ah MemPlace}
 (h:DataW.trod enc prog w base spare held fuel t cs=some x):∃(l:ah (El u)) (v:Value),cs=[v]/\Rel E (λb=>b<w.heap.size) (λ_=>none) w (.au u l) v:=by
 rcases open_slice ht h with h0|⟨a,len,cap,m,n,D,Pl,pz,hb,hl,hm,υ,hx,hi⟩
 ·exact⟨[],_,h0.1,.jy _ _ _⟩
 ·rw[hc]at hi;obtain⟨l,hr⟩:=Qh (u:=u) (w:=w) (a:=a) hl hsz hlen λi rX=>by
   obtain⟨yc,wE,AO⟩:=hi i (by rw[υ];split<;>omega)
   obtain⟨y,hy⟩:=hu _ _ _ _ _ _ _ _ _ AO;refine⟨y,λj c hj=>?_⟩
   obtain⟨v,hv,hr⟩:=hy j c hj;refine⟨v,?_,hr⟩
   obtain⟨_,RM,Uw⟩:=World.cells?_some wE;have mQ:j<E.sz u:=by rw[<-hlen y];exact(ak.1 hj).1
   rw[<-Go.Deep.add_add,Uw j mQ,hv]
  exact⟨l,_,pz,hr⟩
theorem xZ{t:TypeId}{fs:Array Field}{L:ah (TypeId×Nat×Nat)}(ht:prog.underlying t=some (.struct fs))(hm:fs.toList.map (λf=>(f.type,f.offset,prog.cellsOf f.type))=L){H:Type}{enc:TypeId×Value->H}{w:World}{base:Nat}{spare:Nat->Bool}{held:Bool}{fuel:Nat}{cs:ah Value}{x:DataW H×ah MemPlace}
 (h:DataW.trod enc prog w base spare held fuel t cs=some x):∃n:Nat,∀(i:Nat) ft off sz,L[i]?=some (ft,off,sz)->∃y,DataW.trod enc prog w base spare held n ft ((cs.drop off).take sz)=some y:=by
 obtain⟨xs,n,_,_,_,hx,hf⟩:=DataW.trod_struct ht h;refine⟨n,λi ft off sz hi=>?_⟩
 rw[<-hm,bo,aJ]at hi;obtain⟨f,h1,h2⟩:=hi;simp only[dw]at h2;obtain⟨rfl,rfl,rfl⟩:=h2;have hl:i<xs.length:=by
  have:=(ak.1 h1).1;rw[hx];simpa using this
 exact⟨_,(hf i f (by simpa using h1)).trans (az hl)⟩
theorem oI{cs:ah Value}{off:Nat}{v:Value}(h:(cs.drop off).take 1=[v]):cs[off]?=some v:=by have:=congrArg (λl=>l[0]?) h;simpa using this
theorem JT{cs:ah Value}{off n j:Nat}{v:Value}(h:((cs.drop off).take n)[j]?=some v):cs[off+j]?=some v:=by
 rw[fQ]at h;split at h
 ·rw[cg]at h;exact h
 ·cases h
theorem ZS{cs:ah Value}{v:Value}(h:cs=[v]):cs[0]?=some v:=by rw[h];rfl
theorem O'{u:U}{t e:TypeId}(hu:Reads u e)(hsz:0<E.sz u)(hlen:∀x,(E.enc u x).length=E.sz u)(ht:prog.underlying t=some (.slice e))(hc:prog.cellsOf e=E.sz u){H:Type}{enc:TypeId×Value->H}{w:World}{base:Nat}{spare:Nat->Bool}{held:Bool}{v:Value}{d:DataW H}{p:ah MemPlace}{r:Reach}{b0:Nat}
 (hv:Value.okWide prog w r b0 t v) (h:DataW.Trod enc prog w base spare held t v d p):∃l:ah (El u),Rel E (λb=>b<w.heap.size) (λ_=>none) w (.au u l) v:=by
 obtain⟨ao,len,cap,rfl⟩:=okWide_slice ht hv;obtain⟨fuel,hf⟩:=h;obtain⟨l,v,pz,hr⟩:=gZ hu hsz hlen ht hc hf;simp only[Value.cells,kC,and_true]at pz;subst pz;exact⟨l,hr⟩
theorem SW{u:U}{t:TypeId}{fs:Array Field}(hu:Reads u t)(hlen:∀x,(E.enc u x).length=E.sz u)(ht:prog.underlying t=some (.struct fs))(hc:prog.cellsOf t=E.sz u){H:Type}{enc:TypeId×Value->H}{w:World}{base:Nat}{spare:Nat->Bool}{held:Bool}{v:Value}{d:DataW H}{p:ah MemPlace}{r:Reach}{b0:Nat}
 (hv:Value.okWide prog w r b0 t v) (h:DataW.Trod enc prog w base spare held t v d p):∃y:El u,Rel E (λb=>b<w.heap.size) (λ_=>none) w (.agg (E.enc u y)) v:=by
 obtain⟨cs,rfl,hs⟩:=okWide_struct ht hv;obtain⟨fuel,hf⟩:=h;obtain⟨y,hy⟩:=hu _ _ _ _ _ _ _ _ _ hf;refine⟨y,.agg _ cs (by rw[hlen,hs,hc]) λi c v hi hv=>?_⟩
 obtain⟨v',h1,hr⟩:=hy i c hi;have:v'=v:=by
  have h2:(Value.cells (.agg cs)).toList[i]?=cs[i]?:=by simp[Value.cells]
  rw[h2,hv]at h1;cases h1;rfl
 exact this▸hr
theorem ry:Reads .cP 218:=λH enc w base spare held fuel cs x h=>by
 obtain⟨n0,f0⟩:=xZ (L:=[(3,0,1),(3,1,1)]) underlying218 aa h;obtain⟨Ft,uW⟩:=f0 0 3 0 1 rfl;obtain⟨z0,e0,_,hw0⟩:=DataW.trod_int underlying3 uW;obtain⟨Fs,uV⟩:=f0 1 3 1 1 rfl;obtain⟨z1,e1,_,hw1⟩:=DataW.trod_int underlying3 uV;refine⟨⟨z0,z1⟩,λj c hc=>?_⟩
 match j,hc with
 |0,hc=>cases hc;exact⟨_,oI e0,.int _ _⟩
 |1,hc=>cases hc;exact⟨_,oI e1,.int _ _⟩
theorem FT:Reads .node 135:=λH enc w base spare held fuel cs x h=>by
 obtain⟨n0,f0⟩:=xZ (L:=[(9,0,1),(3,1,1),(131,2,2),(3,4,1),(3,5,1),(133,6,1),(4,7,1),(3,8,1)]) underlying135 aa h;obtain⟨Ft,uW⟩:=f0 0 9 0 1 rfl;obtain⟨z0,e0,_⟩:=DataW.trod_string underlying9 uW;obtain⟨Fs,uV⟩:=f0 1 3 1 1 rfl;obtain⟨z1,e1,_,hw1⟩:=DataW.trod_int underlying3 uV;obtain⟨IE,xc⟩:=f0 2 131 2 2 rfl;obtain⟨n1,f1⟩:=xZ (L:=[(3,0,1),(3,1,1)]) underlying131 aa xc;obtain⟨R8,LY⟩:=f1 0 3 0 1 rfl;obtain⟨z2,e2,_,hw2⟩:=DataW.trod_int underlying3 LY;obtain⟨R7,LX⟩:=f1 1 3 1 1 rfl;obtain⟨z3,e3,_,hw3⟩:=DataW.trod_int underlying3 LX;obtain⟨J5,Ad⟩:=f0 3 3 4 1 rfl;obtain⟨z4,e4,_,Zd⟩:=DataW.trod_int underlying3 Ad;obtain⟨PH,Gx⟩:=f0 4 3 5 1 rfl;obtain⟨z5,e5,_,_W⟩:=DataW.trod_int underlying3 Gx;obtain⟨R_,L0⟩:=f0 5 133 6 1 rfl;obtain⟨z6,v6,e6,r6⟩:=gZ ry af (λ_=>rfl) underlying133 aa L0;obtain⟨R9,LZ⟩:=f0 6 4 7 1 rfl;obtain⟨z7,e7,_⟩:=DataW.trod_bool underlying4 LZ;obtain⟨VX,Q'⟩:=f0 7 3 8 1 rfl;obtain⟨z8,e8,_,Zc⟩:=DataW.trod_int underlying3 Q';refine⟨⟨z0.data.toList,z1,z2,z3,z4,z5,z6,z7,z8⟩,λj c hc=>?_⟩
 match j,hc with
 |0,hc=>cases hc;exact⟨_,oI e0,.str _⟩
 |1,hc=>cases hc;exact⟨_,oI e1,.int _ _⟩
 |2,hc=>cases hc;exact⟨_,JT (oI e2),.int _ _⟩
 |3,hc=>cases hc;exact⟨_,JT (oI e3),.int _ _⟩
 |4,hc=>cases hc;exact⟨_,oI e4,.int _ _⟩
 |5,hc=>cases hc;exact⟨_,oI e5,.int _ _⟩
 |6,hc=>cases hc;exact⟨_,oI e6,r6⟩
 |7,hc=>cases hc;exact⟨_,oI e7,.bool _⟩
 |8,hc=>cases hc;exact⟨_,oI e8,.int _ _⟩
theorem FU:Reads .link 139:=λH enc w base spare held fuel cs x h=>by
 obtain⟨n0,f0⟩:=xZ (L:=[(9,0,1),(9,1,1),(9,2,1),(3,3,1),(3,4,1),(3,5,1),(3,6,1),(9,7,1),(3,8,1),(3,9,1),(133,10,1)]) underlying139 aa h;obtain⟨Ft,uW⟩:=f0 0 9 0 1 rfl;obtain⟨z0,e0,_⟩:=DataW.trod_string underlying9 uW;obtain⟨Fs,uV⟩:=f0 1 9 1 1 rfl;obtain⟨z1,e1,_⟩:=DataW.trod_string underlying9 uV;obtain⟨IE,xc⟩:=f0 2 9 2 1 rfl;obtain⟨z2,e2,_⟩:=DataW.trod_string underlying9 xc;obtain⟨J5,Ad⟩:=f0 3 3 3 1 rfl;obtain⟨z3,e3,_,hw3⟩:=DataW.trod_int underlying3 Ad;obtain⟨PH,Gx⟩:=f0 4 3 4 1 rfl;obtain⟨z4,e4,_,Zd⟩:=DataW.trod_int underlying3 Gx;obtain⟨R_,L0⟩:=f0 5 3 5 1 rfl;obtain⟨z5,e5,_,_W⟩:=DataW.trod_int underlying3 L0;obtain⟨R9,LZ⟩:=f0 6 3 6 1 rfl;obtain⟨z6,e6,_,_V⟩:=DataW.trod_int underlying3 LZ;obtain⟨VX,Q'⟩:=f0 7 9 7 1 rfl;obtain⟨z7,e7,_⟩:=DataW.trod_string underlying9 Q';obtain⟨Z8,Yb⟩:=f0 8 3 8 1 rfl;obtain⟨z8,e8,_,Zc⟩:=DataW.trod_int underlying3 Yb;obtain⟨Z7,Ya⟩:=f0 9 3 9 1 rfl;obtain⟨z9,e9,_,_U⟩:=DataW.trod_int underlying3 Ya;obtain⟨Yv,UE⟩:=f0 10 133 10 1 rfl;obtain⟨R6,v10,RU,_c⟩:=gZ ry af (λ_=>rfl) underlying133 aa UE;refine⟨⟨z0.data.toList,z1.data.toList,z2.data.toList,z3,z4,z5,z6,z7.data.toList,z8,z9,R6⟩,λj c hc=>?_⟩
 match j,hc with
 |0,hc=>cases hc;exact⟨_,oI e0,.str _⟩
 |1,hc=>cases hc;exact⟨_,oI e1,.str _⟩
 |2,hc=>cases hc;exact⟨_,oI e2,.str _⟩
 |3,hc=>cases hc;exact⟨_,oI e3,.int _ _⟩
 |4,hc=>cases hc;exact⟨_,oI e4,.int _ _⟩
 |5,hc=>cases hc;exact⟨_,oI e5,.int _ _⟩
 |6,hc=>cases hc;exact⟨_,oI e6,.int _ _⟩
 |7,hc=>cases hc;exact⟨_,oI e7,.str _⟩
 |8,hc=>cases hc;exact⟨_,oI e8,.int _ _⟩
 |9,hc=>cases hc;exact⟨_,oI e9,.int _ _⟩
 |10,hc=>cases hc;exact⟨_,oI RU,_c⟩
theorem FQ:Reads .dj 144:=λH enc w base spare held fuel cs x h=>by
 obtain⟨n0,f0⟩:=xZ (L:=[(9,0,1),(3,1,1),(3,2,1),(133,3,1),(133,4,1)]) underlying144 aa h;obtain⟨Ft,uW⟩:=f0 0 9 0 1 rfl;obtain⟨z0,e0,_⟩:=DataW.trod_string underlying9 uW;obtain⟨Fs,uV⟩:=f0 1 3 1 1 rfl;obtain⟨z1,e1,_,hw1⟩:=DataW.trod_int underlying3 uV;obtain⟨IE,xc⟩:=f0 2 3 2 1 rfl;obtain⟨z2,e2,_,hw2⟩:=DataW.trod_int underlying3 xc;obtain⟨J5,Ad⟩:=f0 3 133 3 1 rfl;obtain⟨z3,v3,e3,r3⟩:=gZ ry af (λ_=>rfl) underlying133 aa Ad;obtain⟨PH,Gx⟩:=f0 4 133 4 1 rfl;obtain⟨z4,v4,e4,r4⟩:=gZ ry af (λ_=>rfl) underlying133 aa Gx;refine⟨⟨z0.data.toList,z1,z2,z3,z4⟩,λj c hc=>?_⟩
 match j,hc with
 |0,hc=>cases hc;exact⟨_,oI e0,.str _⟩
 |1,hc=>cases hc;exact⟨_,oI e1,.int _ _⟩
 |2,hc=>cases hc;exact⟨_,oI e2,.int _ _⟩
 |3,hc=>cases hc;exact⟨_,oI e3,r3⟩
 |4,hc=>cases hc;exact⟨_,oI e4,r4⟩
theorem IX:Reads .fy 223:=λH enc w base spare held fuel cs x h=>by
 obtain⟨n0,f0⟩:=xZ (L:=[(9,0,1),(4,1,1),(3,2,1)]) underlying223 aa h;obtain⟨Ft,uW⟩:=f0 0 9 0 1 rfl;obtain⟨z0,e0,_⟩:=DataW.trod_string underlying9 uW;obtain⟨Fs,uV⟩:=f0 1 4 1 1 rfl;obtain⟨z1,e1,_⟩:=DataW.trod_bool underlying4 uV;obtain⟨IE,xc⟩:=f0 2 3 2 1 rfl;obtain⟨z2,e2,_,hw2⟩:=DataW.trod_int underlying3 xc;refine⟨⟨z0.data.toList,z1,z2⟩,λj c hc=>?_⟩
 match j,hc with
 |0,hc=>cases hc;exact⟨_,oI e0,.str _⟩
 |1,hc=>cases hc;exact⟨_,oI e1,.bool _⟩
 |2,hc=>cases hc;exact⟨_,oI e2,.int _ _⟩
theorem FR:Reads .eG 149:=λH enc w base spare held fuel cs x h=>by
 obtain⟨n0,f0⟩:=xZ (L:=[(9,0,1),(147,1,1),(9,2,1),(3,3,1)]) underlying149 aa h;obtain⟨Ft,uW⟩:=f0 0 9 0 1 rfl;obtain⟨z0,e0,_⟩:=DataW.trod_string underlying9 uW;obtain⟨Fs,uV⟩:=f0 1 147 1 1 rfl;obtain⟨z1,v1,e1,r1⟩:=gZ IX af (λ_=>rfl) underlying147 aa uV;obtain⟨IE,xc⟩:=f0 2 9 2 1 rfl;obtain⟨z2,e2,_⟩:=DataW.trod_string underlying9 xc;obtain⟨J5,Ad⟩:=f0 3 3 3 1 rfl;obtain⟨z3,e3,_,hw3⟩:=DataW.trod_int underlying3 Ad;refine⟨⟨z0.data.toList,z1,z2.data.toList,z3⟩,λj c hc=>?_⟩
 match j,hc with
 |0,hc=>cases hc;exact⟨_,oI e0,.str _⟩
 |1,hc=>cases hc;exact⟨_,oI e1,r1⟩
 |2,hc=>cases hc;exact⟨_,oI e2,.str _⟩
 |3,hc=>cases hc;exact⟨_,oI e3,.int _ _⟩
theorem tI:Reads .int 3:=λH enc w base spare held fuel cs x h=>by
 obtain⟨z0,e0,_,hw0⟩:=DataW.trod_int underlying3 h;refine⟨z0,λj c hc=>?_⟩
 match j,hc with
 |0,hc=>cases hc;exact⟨_,ZS e0,.int _ _⟩
theorem zl:Reads .bool 4:=λH enc w base spare held fuel cs x h=>by
 obtain⟨z0,e0,_⟩:=DataW.trod_bool underlying4 h;refine⟨z0,λj c hc=>?_⟩
 match j,hc with
 |0,hc=>cases hc;exact⟨_,ZS e0,.bool _⟩
theorem FP:Reads .rp 33:=λH enc w base spare held fuel cs x h=>by
 obtain⟨n0,f0⟩:=xZ (L:=[(25,0,2),(26,2,1),(27,3,1),(31,4,4)]) underlying33 aa h;obtain⟨Ft,uW⟩:=f0 0 25 0 2 rfl;obtain⟨n1,f1⟩:=xZ (L:=[(22,0,1),(23,1,1)]) underlying25 aa uW;obtain⟨R8,LY⟩:=f1 0 22 0 1 rfl;obtain⟨z0,v0,e0,r0⟩:=gZ FT af (λ_=>rfl) underlying22 aa LY;obtain⟨R7,LX⟩:=f1 1 23 1 1 rfl;obtain⟨z1,v1,e1,r1⟩:=gZ FU af (λ_=>rfl) underlying23 aa LX;obtain⟨Fs,uV⟩:=f0 1 26 2 1 rfl;obtain⟨z2,v2,e2,r2⟩:=gZ FQ af (λ_=>rfl) underlying26 aa uV;obtain⟨IE,xc⟩:=f0 2 27 3 1 rfl;obtain⟨z3,v3,e3,r3⟩:=gZ FR af (λ_=>rfl) underlying27 aa xc;obtain⟨J5,Ad⟩:=f0 3 31 4 4 rfl;obtain⟨n2,f2⟩:=xZ (L:=[(28,0,1),(28,1,1),(28,2,1),(29,3,1)]) underlying31 aa Ad;obtain⟨Z3,X7⟩:=f2 0 28 0 1 rfl;obtain⟨z4,v4,e4,r4⟩:=gZ tI af (λ_=>rfl) underlying28 aa X7;obtain⟨Z2,X6⟩:=f2 1 28 1 1 rfl;obtain⟨z5,v5,e5,r5⟩:=gZ tI af (λ_=>rfl) underlying28 aa X6;obtain⟨Z1,X5⟩:=f2 2 28 2 1 rfl;obtain⟨z6,v6,e6,r6⟩:=gZ tI af (λ_=>rfl) underlying28 aa X5;obtain⟨Z0,X4⟩:=f2 3 29 3 1 rfl;obtain⟨z7,v7,e7,r7⟩:=gZ zl af (λ_=>rfl) underlying29 aa X4;refine⟨⟨z0,z1,z2,z3,z4,z5,z6,z7⟩,λj c hc=>?_⟩
 match j,hc with
 |0,hc=>cases hc;exact⟨_,JT (oI e0),r0⟩
 |1,hc=>cases hc;exact⟨_,JT (oI e1),r1⟩
 |2,hc=>cases hc;exact⟨_,oI e2,r2⟩
 |3,hc=>cases hc;exact⟨_,oI e3,r3⟩
 |4,hc=>cases hc;exact⟨_,JT (oI e4),r4⟩
 |5,hc=>cases hc;exact⟨_,JT (oI e5),r5⟩
 |6,hc=>cases hc;exact⟨_,JT (oI e6),r6⟩
 |7,hc=>cases hc;exact⟨_,JT (oI e7),r7⟩
theorem IW:Reads .jt 42:=λH enc w base spare held fuel cs x h=>by
 obtain⟨n0,f0⟩:=xZ (L:=[(3,0,1),(3,1,1),(28,2,1),(9,3,1),(3,4,1),(40,5,5),(9,10,1)]) underlying42 aa h;obtain⟨Ft,uW⟩:=f0 0 3 0 1 rfl;obtain⟨z0,e0,_,hw0⟩:=DataW.trod_int underlying3 uW;obtain⟨Fs,uV⟩:=f0 1 3 1 1 rfl;obtain⟨z1,e1,_,hw1⟩:=DataW.trod_int underlying3 uV;obtain⟨IE,xc⟩:=f0 2 28 2 1 rfl;obtain⟨z2,v2,e2,r2⟩:=gZ tI af (λ_=>rfl) underlying28 aa xc;obtain⟨J5,Ad⟩:=f0 3 9 3 1 rfl;obtain⟨z3,e3,_⟩:=DataW.trod_string underlying9 Ad;obtain⟨PH,Gx⟩:=f0 4 3 4 1 rfl;obtain⟨z4,e4,_,Zd⟩:=DataW.trod_int underlying3 Gx;obtain⟨R_,L0⟩:=f0 5 40 5 5 rfl;obtain⟨n1,f1⟩:=xZ (L:=[(9,0,1),(3,1,1),(3,2,1),(3,3,1),(3,4,1)]) underlying40 aa L0;obtain⟨R8,LY⟩:=f1 0 9 0 1 rfl;obtain⟨z5,e5,_⟩:=DataW.trod_string underlying9 LY;obtain⟨R7,LX⟩:=f1 1 3 1 1 rfl;obtain⟨z6,e6,_,_V⟩:=DataW.trod_int underlying3 LX;obtain⟨Z6,X_⟩:=f1 2 3 2 1 rfl;obtain⟨z7,e7,_,hw7⟩:=DataW.trod_int underlying3 X_;obtain⟨Z5,X9⟩:=f1 3 3 3 1 rfl;obtain⟨z8,e8,_,Zc⟩:=DataW.trod_int underlying3 X9;obtain⟨Z4,X8⟩:=f1 4 3 4 1 rfl;obtain⟨z9,e9,_,_U⟩:=DataW.trod_int underlying3 X8;obtain⟨R9,LZ⟩:=f0 6 9 10 1 rfl;obtain⟨R6,RU,_⟩:=DataW.trod_string underlying9 LZ;refine⟨⟨z0,z1,z2,z3.data.toList,z4,z5.data.toList,z6,z7,z8,z9,R6.data.toList⟩,λj c hc=>?_⟩
 match j,hc with
 |0,hc=>cases hc;exact⟨_,oI e0,.int _ _⟩
 |1,hc=>cases hc;exact⟨_,oI e1,.int _ _⟩
 |2,hc=>cases hc;exact⟨_,oI e2,r2⟩
 |3,hc=>cases hc;exact⟨_,oI e3,.str _⟩
 |4,hc=>cases hc;exact⟨_,oI e4,.int _ _⟩
 |5,hc=>cases hc;exact⟨_,JT (oI e5),.str _⟩
 |6,hc=>cases hc;exact⟨_,JT (oI e6),.int _ _⟩
 |7,hc=>cases hc;exact⟨_,JT (oI e7),.int _ _⟩
 |8,hc=>cases hc;exact⟨_,JT (oI e8),.int _ _⟩
 |9,hc=>cases hc;exact⟨_,JT (oI e9),.int _ _⟩
 |10,hc=>cases hc;exact⟨_,oI RU,.str _⟩
theorem HE{H:Type}{enc:TypeId×Value->H}{w:World}{base:Nat}{spare:Nat->Bool}{held:Bool}{v:Value}{d:DataW H}{p:ah MemPlace}{t:TypeId}{k:IntKind}(ht:prog.underlying t=some (.int k)){r:Reach}{b0:Nat}(hv:Value.okWide prog w r b0 t v)(h:DataW.Trod enc prog w base spare held t v d p):
 ∃n:Int,v=.int k n/\(Lit.int k n).wf=true:=by
 obtain⟨n,rfl,_,_,hw⟩:=open_int ht hv h;exact⟨n,rfl,hw⟩
noncomputable def UD:Bool:=match prog.globalNamed "internal/strconv.uint64pow10" with
 |some g=>match(prog.globals[g]?).map (·.type)with
  |some t=>match prog.underlying t with
   |some (.array n e)=>(match prog.underlying e with|some (.int .u64)=>true|_=>false)&&Nat.beq (prog.cellsOf e) 1&&Nat.beq (prog.cellsOf t) n
   |_=>false
  |none=>false
 |none=>false
theorem gOk(h:UD=true): ∃g,prog.globalNamed "internal/strconv.uint64pow10" =some g/\ ∃t,(prog.globals[g]?).map (·.type)=some t/\ ∃n e,prog.underlying t=some (.array n e)/\prog.underlying e=some (.int .u64)/\prog.cellsOf e=1/\prog.cellsOf t=n:=by
 unfold UD at h;split at h
 ·rename_i g hg;split at h
  ·rename_i t ht;split at h
   ·rename_i n e hu;simp only[aj]at h;obtain⟨⟨h1,h2⟩,h3⟩:=h;split at h1
    ·rename_i he;exact⟨g,hg,t,ht,n,e,hu,he,al h2,al h3⟩
    ·cases h1
   ·cases h
  ·cases h
 ·cases h
end Go.Proofs.YtfmamkmmohilgaaGreatDoor
