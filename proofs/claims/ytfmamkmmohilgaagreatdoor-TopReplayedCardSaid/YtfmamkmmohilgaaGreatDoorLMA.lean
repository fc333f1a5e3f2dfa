/- Regions in any order and renamings of blocks, borne out by the model. Conditions: those of each theorem, none else. -/
import Derived.Test.YtfmamkmmohilgaaGreatDoorLJA
import Derived.Orders
namespace Go.Proofs.YtfmamkmmohilgaaGreatDoor
open IntKind
set_option linter.all false
open Go.RowKit
section
variable{U:Type}{El:U->Type}{P:Program}{X:Ctx U El}{S S0:Nat->Prop}{ρ:eJ}{w w0:World} [DecidableEq U] [tD]
variable{o:Oper}{a:Act}{st:St U El}{B:Bd}{d:Nat}{r:Fin U El}
theorem oY{k:St U El->Option (Fin U El)}(hX:bp P X)(hi:Inv X B S0 w0 S ρ st a w)(hv:wN X o st k=some r){next:Act->World->Prop}{Q:Exit->Act->World->Prop}
 (hn:∀bx a' w',bK X B S0 w0 bx a' w'->k bx=some r->next a' w'):o.wp P a w next Q:=by
 unfold wN at hv;dsimp only at hv;obtain⟨iu,gq⟩:=aQ hv;have rG:=hi.fD hX (dP o (o.dst.getD 999))
 obtain⟨out,hk,LO⟩:=rI (B:=B) (H:=(st.fD (dP o (o.dst.getD 999))).h) hX gq (λi _=>rG.tmps i) rG.heap (λ_ _ h=>h) (λj hj=>q_ _ _ j (.inr hj)) (rG.g0 _ rG.below)
 refine LO next Q λv w' S' ρ' mq hr hN o8 s9=>hn _ _ _ ⟨S',ρ',rG.put (λe he=>?_) mq hr hN (λid b hg=>q_ _ _ id (.inr (o8 id b hg)))⟩ hk
 rw[he]at iu;exact aV iu
def rj(P:Program)(X:Ctx U El)(g:FuncId)(sp:Nat->ah (AV U El)->St U El->(AV U El->St U El->Option (Fin U El))->Option (Fin U El)):Prop:=
 (∀aaa w,(callFunc g aaa).run P w=.ok (.enter g aaa) w)/\
 ∀{B:Bd} {S0:Nat->Prop} {w0:World} {S:Nat->Prop} {ρ:eJ} {st:St U El} {a:Act} {w:World} {d:Nat} {args:ah (AV U El)} {vs:Array Value} {k:AV U El->St U El->Option (Fin U El)} {r:Fin U El},
  Inv X B S0 w0 S ρ st a w->pb X.E S ρ w args vs->sp d args st k=some r->
  Calls P g vs w λe w'=>∃v res bx S' ρ',e=.returned v/\k res bx=some r/\Inv X B S0 w0 S' ρ' bx a w'/\Rel X.E S' ρ' w' res v
def kZ(P:Program)(X:Ctx U El):Prop:=∀g sp,X.mspec g=some sp->rj P X g sp
abbrev Iz(U:Type)(El:U->Type):=TypeId->Int->Int->St U El->Option (Fin U El)
abbrev FY(T:TypeId)(l c:Int):ah PanicEntry:=[{v:=.iface T (.agg #[.int .i64 l,.int .i64 c]),recovered:=false}]
def ML(sR:Iz U El)(P:Program)(X:Ctx U El)(g:FuncId)(sp:Nat->ah (AV U El)->St U El->(AV U El->St U El->Option (Fin U El))->Option (Fin U El)):Prop:=
 (∀aaa w,(callFunc g aaa).run P w=.ok (.enter g aaa) w)/\
 ∀{B:Bd} {S0:Nat->Prop} {w0:World} {S:Nat->Prop} {ρ:eJ} {st:St U El} {a:Act} {w:World} {d:Nat} {args:ah (AV U El)} {vs:Array Value} {k:AV U El->St U El->Option (Fin U El)} {r:Fin U El},
  Inv X B S0 w0 S ρ st a w->pb X.E S ρ w args vs->sp d args st k=some r->
  Calls P g vs w λe w'=>(∃v res bx S' ρ',e=.returned v/\k res bx=some r/\Inv X B S0 w0 S' ρ' bx a w'/\Rel X.E S' ρ' w' res v)\/(∃T l c bx,e=.panicked (FY T l c)/\bK X B S0 w0 bx a w'/\sR T l c bx=some r)
def C_(sR:Iz U El)(P:Program)(X:Ctx U El):Prop:=∀g sp,X.mspec g=some sp->ML sR P X g sp
def K9:Iz U El:=λ_ _ _ _=>none
theorem rj.g{sR:Iz U El}{g:FuncId}{sp:Nat->ah (AV U El)->St U El->(AV U El->St U El->Option (Fin U El))->Option (Fin U El)}(h:rj P X g sp):ML sR P X g sp:=⟨h.1,λhi hr hv=>(h.2 hi hr hv).mono λ_ _ h=>.inl h⟩
theorem kZ.g{sR:Iz U El}(h:kZ P X):C_ sR P X:=λg sp hg=>(h g sp hg).g
def Bw(sR:Iz U El)(X:Ctx U El)(B:Bd)(S0:Nat->Prop)(w0:World)(r:Fin U El)(Q:Exit->Act->World->Prop):Prop:=∀T l c bx a w',bK X B S0 w0 bx a w'->sR T l c bx=some r->Q (.panic (FY T l c)) a w'
theorem Bw.no{Q:Exit->Act->World->Prop}:Bw K9 X B S0 w0 r Q:=λ_ _ _ _ _ _ _ h=>by cases h
theorem Cu{n:Nat}{eq:Bool}{k:Bool->Option (Fin U El)}(h:vQ n eq k=some r):(0<n/\k (!eq)=some r)\/(n=0/\∀b,k b=some r):=by
 unfold vQ at h;cases hn:lU 0 n with
 |true=>rw[hn]at h;exact .inl ⟨of_decide_eq_true hn,h⟩
 |false=>
  rw[hn]at h;obtain⟨h1,h2⟩:=E' h;exact .inr ⟨by have:¬0<n:=of_decide_eq_false hn;omega,λb=>by cases b;exact h2;exact h1⟩
theorem EF{t e:TypeId}(d cap:Nat)(hu:P.underlying t=some (.slice e)):(Op.equalIn (d+1) t (.slice none 0 cap) (.slice none 0 0)).run P w=.ok true w:=by simp[Op.equalIn,run_underlying hu]
theorem F'{x:AV U El}{v:Value}{n:Nat}(hi:Inv X B S0 w0 S ρ st a w)(hr:Rel X.E S ρ w x v)(h:Cv st.h x=some n):∃ao cap,v=.slice ao n cap/\(0<n->∃a,ao=some a):=by
 unfold Cv at h;split at h
 ·cases h;cases hr with
  |jy=>exact⟨_,_,rfl,λh=>absurd h ae⟩
  |au=>exact⟨_,_,rfl,λ_=>⟨_,rfl⟩⟩
 ·rename_i id;split at h
  ·rename_i u xs hg;cases h;obtain⟨l,hl,h1,h2,h3,h4⟩:=hi.heap.get _ _ hg;cases hr with
   |cf _ cap l' dq e1 e2=>rw[hl]at dq;cases dq;exact⟨_,cap,by rw[h2],λ_=>⟨_,rfl⟩⟩
   |j7 _ l' dq e1 e2=>rw[hl]at dq;cases dq;rw[e2]at h2;exact⟨none,0,by rw[<-h2],λh=>ab⟩
  ·cases h
 ·cases h
theorem uu{k:St U El->Option (Fin U El)}{op:BinOp}{ty yt:TypeId}{x y:Operand}{n d:Nat}{eq:Bool}(hX:bp P X)(ho:o.op=.binOp op ty x y yt)(z_:op=if eq then .eql else .neq)(hi:Inv X B S0 w0 S ρ st a w)(hy:bm st.t y=.cL)(hl:Cv st.h (bm st.t x)=some n)(hd:o.dst=some d)(MW:d<X.nt)
 (hb:tu X ty y (.cL:AV U El)=true) (hv:vQ n eq (λb=>k ⟨(d,.bool b)::st.t,st.h⟩)=some r) {next:Act->World->Prop} {Q:Exit->Act->World->Prop} (hn:∀bx a' w',bK X B S0 w0 bx a' w'->k bx=some r->next a' w'):o.wp P a w next Q:=by
 have CF:Rel X.E S ρ w (bm st.t x) (a.eval x):=Rel.bm λi _=>hi.tmps i
 have Wx:Rel X.E S ρ w (bm st.t y) (a.eval y):=Rel.bm λi _=>hi.tmps i
 obtain⟨ao,cap,MU,gn⟩:=F' hi CF hl;rw[hy]at Wx;generalize _8:a.eval y=q at Wx;cases Wx;unfold tu at hb;simp only at hb;split at hb;case h_2=>cases hb
 rename_i u gM;have hu:P.underlying ty=some (.slice (X.E.tid u)):=hX.td _ _ gM;have ug:(eqGuard op ty x y (.slice ao n cap) (.slice none 0 0)).run P w=.ok () w:=by cases op<;>rfl
 have fin:∀b:Bool,(binOp op ty (.slice ao n cap) (.slice none 0 0)).run P w=.ok (.bool b) w->k ⟨(d,.bool b)::st.t,st.h⟩=some r->o.wp P a w next Q:=λb de hk=>by
  unfold Oper.wp;have:(execOp a.eval o).run P w=.ok (.value (.bool b)) w:=by simp[execOp,ho,MU,_8,ug,de]
  rw[this]
  show next (a.put o.dst (.bool b)) w
  refine hn _ _ _ ⟨S,ρ,?_⟩ hk;refine⟨by rw[hd];exact hi.defers,by rw[hd];simp[Act.put,hi.size],hi.below,hi.hB,hi.s0,hi.s1,hi.g0,?_,hi.heap⟩
  have:=mW (d:=o.dst) (v:=.bool b) (av:=.bool b) (λe he=>by rw[hi.size];rw[hd]at he;cases he;exact MW) hi.tmps (.bool b)
  rw[hd]at this⊢;exact this
 have vj:∃b0:Bool,(binOp op ty (.slice ao n cap) (.slice none 0 0)).run P w=.ok (.bool b0) w/\(0<n->b0= !eq):=by
  subst z_;cases ao with
  |none=>
   have hn0:n=0:=by
    rcases Nat.eq_zero_or_pos n with h|h
    ·exact h
    ·obtain⟨_,h⟩:=gn h;cases h
   subst hn0;cases eq
   ·exact⟨_,mb rfl (EF _ cap hu),λh=>ab⟩
   ·exact⟨_,mc rfl (EF _ cap hu),λh=>ab⟩
  |some ao=>
   cases eq
   ·exact⟨_,mb rfl (yC _ ao n cap hu),λ_=>rfl⟩
   ·exact⟨_,mc rfl (yC _ ao n cap hu),λ_=>rfl⟩
 obtain⟨b0,de,xW⟩:=vj;rcases Cu hv with⟨h1,h2⟩|⟨_,h2⟩
 ·exact fin b0 de (by rw[xW h1];exact h2)
 ·exact fin b0 de (h2 b0)
theorem qo{sR:Iz U El}{k:St U El->Option (Fin U El)}(hX:bp P X)(hM:C_ sR P X)(hi:Inv X B S0 w0 S ρ st a w)(hv:qp X o st k=some r){next:Act->World->Prop}{Q:Exit->Act->World->Prop}
 (hP:Bw sR X B S0 w0 r Q) (hn:∀bx a' w',bK X B S0 w0 bx a' w'->k bx=some r->next a' w'):o.wp P a w next Q:=by
 unfold qp at hv;split at hv
 ·rename_i ty p v ho;split at hv
  ·rename_i hd;exact AY hX ho hi hv (λe he=>by rw[hd]at he;cases he) hn
  ·cases hv
 ·rename_i op ty x y yt ho;split at hv
  ·rename_i n d hy hl hd;obtain⟨iu,gq⟩:=aQ hv;simp only[aj]at iu;exact uu (eq:=true) hX ho rfl hi hy hl hd (aV iu.2) iu.1 gq hn
  ·rename_i n d hy hl hd;obtain⟨iu,gq⟩:=aQ hv;simp only[aj]at iu;exact uu (eq:=false) hX ho rfl hi hy hl hd (aV iu.2) iu.1 gq hn
  ·exact oY hX hi hv hn
 ·rename_i ty x ho;split at hv
  ·rename_i gM hd;exact EY hX ho hd hi hv hn
  ·exact oY hX hi hv hn
 ·rename_i ty m i v ho;split at hv
  ·rename_i hd;exact sW hX (.inl ho) hi hv hd λbx w' _ hinv hk=>hn bx a w' ⟨S,ρ,hinv⟩ hk
  ·cases hv
 ·rename_i ty m i v ho;split at hv
  ·rename_i hd;exact sW hX (.inr ho) hi hv hd λbx w' _ hinv hk=>hn bx a w' ⟨S,ρ,hinv⟩ hk
  ·cases hv
 ·rename_i aaa ts ho;split at hv
  ·rename_i s x ty rk d has hts hd;obtain⟨iu,gq⟩:=aQ hv;have ha:aaa=#[s,x]:=by apply f_;simpa using has
   have ht:ts=#[ty,rk]:=by apply f_;simpa using hts
   subst ha ht;exact Ay hX ho hd (aV iu) hi gq hn
  ·cases hv
 ·rename_i aaa ts ho;split at hv
  ·rename_i s ty has hts hd;have ha:aaa=#[s]:=by apply f_;simpa using has
   have ht:ts=#[ty]:=by apply f_;simpa using hts
   subst ha ht;exact Bs (aaa:=#[s]) (ts:=#[ty]) hX ho hd hi hv hn
  ·cases hv
 ·rename_i aaa ts ho;split at hv
  ·rename_i s x ty rk has hts;obtain⟨iu,gq⟩:=aQ hv;have ha:aaa=#[s,x]:=by apply f_;simpa using has
   have ht:ts=#[ty,rk]:=by apply f_;simpa using hts
   subst ha ht;exact CX hX ho (λe he=>by rw[he]at iu;exact aV iu) hi gq hn
  ·cases hv
 ·rename_i f aaa ts ho;have hf:Rel X.E S ρ w (bm st.t f) (a.eval f):=Rel.bm λi _=>hi.tmps i
  split at hv
  ·rename_i g first mO QY
   split at hv
   ·rename_i sp Pp;obtain⟨iu,gq⟩:=aQ hv;obtain⟨kH,vT⟩:=hM g sp Pp;rw[QY]at hf;generalize hq:a.eval f=q at hf;cases hf with
    |fn _ _ _ vf vc sg tR TR CI=>
     have de:(execOp a.eval o).run P w=.ok (.enter g (vf++aaa.map a.eval++vc)) w:=by
      simp[execOp,ho,resolve,Deferred.ofValue,hq,invoke,kH]
     have Gm:pb X.E S ρ w (first++aaa.toList.map (bm st.t)++mO) (vf++aaa.map a.eval++vc):=by
      refine⟨by simp[sg,tR],λi c v hc hv=>?_⟩
      have eC:(vf.toList++aaa.toList.map a.eval++vc.toList)[i]?=some v:=by
       rw[<-bO]at hv;simpa using hv
      rw[lg]at hc eC;split at hc
      ·rename_i h1;rw[if_pos (by simpa[sg]using h1)]at eC;rw[lg]at hc eC;split at hc
       ·rename_i h2;rw[if_pos (by simpa[sg]using h2)]at eC;exact TR i c v hc (by simpa using eC)
       ·rename_i h2;rw[if_neg (by simpa[sg]using h2)]at eC;simp only[bo,aJ,cW,sg]at hc eC;obtain⟨x,hx,rfl⟩:=hc;obtain⟨y,hy,rfl⟩:=eC;rw[hx]at hy;cases hy;exact Rel.bm λi _=>hi.tmps i
      ·rename_i h1;rw[if_neg (by simpa[sg]using h1)]at eC;simp only[aF,gk,cW,sg]at hc eC;exact CI _ c v hc (by simpa using eC)
     unfold Oper.wp;rw[de]
     show Calls P g _ w _;refine(vT hi Gm gq).mono ?_;rintro e w' (⟨v,res,bx,S',ρ',rfl,hk,ku,nP⟩|⟨T,l,c,bx,rfl,iM,hp⟩)
     rotate_left
     ·exact hP T l c bx a w' iM hp
     show next (a.put o.dst v) w'
     refine hn _ _ _ ⟨S',ρ',?_⟩ hk;have hlt:∀e,o.dst=some e->e<X.nt:=λe he=>by
      rw[he]at iu;exact aV iu
     refine⟨by cases o.dst<;>exact ku.defers,by cases o.dst<;>simp[Act.put,ku.size],ku.below,ku.hB,ku.s0,ku.s1,ku.g0,?_,ku.heap⟩
     have:=mW (d:=o.dst) (v:=v) (av:=res) (λe he=>by rw[ku.size];exact hlt e he) ku.tmps nP;cases LP:o.dst<;>rw[LP]at this<;>exact this
   ·exact oY hX hi hv hn
  ·cases hv
 ·exact oY hX hi hv hn
theorem mX{k:St U El->Option (Fin U El)}(hX:bp P X)(hM:kZ P X)(hi:Inv X B S0 w0 S ρ st a w)(hv:qp X o st k=some r){next:Act->World->Prop}{Q:Exit->Act->World->Prop}
 (hn:∀bx a' w',bK X B S0 w0 bx a' w'->k bx=some r->next a' w'):o.wp P a w next Q:=qo (sR:=K9) hX hM.g hi hv .no hn
theorem bK.refine{g:Nat}{b:Bool}(hs:bK X B S0 w0 st a w)(hg:cC st.t g=.bool b):bK X B S0 w0 ⟨(g,.bool b)::st.t,st.h⟩ a w:=by
 obtain⟨S,ρ,hi⟩:=hs;refine⟨S,ρ,hi.defers,hi.size,hi.below,hi.hB,hi.s0,hi.s1,hi.g0,λi=>?_,hi.heap⟩
 simp only[cC]
 by_cases e:g=i
 ·subst e;rw[aG];have:=hi.tmps g;rw[hg]at this;exact this
 ·rw[aO e];exact hi.tmps i
theorem tr{t:eH U El}{g:Nat}{k:eH U El->Bool->Option (Fin U El)}(h:branch t g k=some r):∃b,cC t g=.bool b/\k ((g,.bool b)::t) b=some r:=by
 unfold branch at h;split at h
 ·rename_i b hb;cases b
  ·exact⟨false,hb,h⟩
  ·exact⟨true,hb,h⟩
 ·cases h
theorem rH{t:eH U El}{g:Nat}{want:Bool}{k:eH U El->Bool->Option (Fin U El)}(h:tT t g want k=some r):(∃b,cC t g=.bool b/\k ((g,.bool b)::t) b=some r)\/(cC t g=.bP []/\k t (!want)=some r):=by
 unfold tT at h;split at h
 ·rename_i b hb;cases b
  ·exact .inl ⟨false,hb,h⟩
  ·exact .inl ⟨true,hb,h⟩
 ·rename_i hb;exact .inr ⟨hb,h⟩
 ·cases h
theorem l7{o:Oper}{t:eH U El}{k:eH U El->Option (Fin U El)}(h:jQ o t k=some r):∃t',k t'=some r/\(t'=t\/∃g b,cC t g=.bool b/\t'=(g,.bool b)::t):=by
 unfold jQ at h;split at h
 ·obtain⟨b,h1,h2⟩:=tr h;exact⟨_,h2,.inr ⟨_,b,h1,rfl⟩⟩
 ·exact⟨t,h,.inl rfl⟩
theorem IC{ops:Array Oper}{tmps:Array Value}{j g:Nat}{b:Bool}(hd:(ops.toList.map (·.dst))[j]?=some (some g))(hv:tmps.getD g undef=.bool b):yielded ops tmps j=some b:=by
 unfold yielded;have h1:(ops[j]?).bind (·.dst)=some g:=by
  simp only[bo,bO,aJ]at hd;obtain⟨o,ho,jb⟩:=hd;simp[ho,jb]
 have h2:tmps[g]?=some (.bool b):=by
  rw[aH]at hv;cases e:tmps[g]? with
  |none=>rw[e]at hv;simp[undef]at hv
  |some v=>rw[e]at hv;simp at hv;rw[hv]
 rw[h1]
 simp[h2]
theorem uU{ops:Array Oper}{o:Oper}{j g:Nat}{want b:Bool}(ug:o.guard=some (j,want))(hd:(match(ops.toList.map (·.dst))[j]? with|some d=>d|none=>none)=some g){a:Act}(hv:a.tmps.getD g undef=.bool b):
 Region.wanted o (yielded ops a.tmps)=(!(Bool.xor b want)):=by
 have rZ:(ops.toList.map (·.dst))[j]?=some (some g):=by
  split at hd
  ·rename_i e;rw[e,hd]
  ·cases hd
 unfold Region.wanted;rw[ug]
 simp only[IC rZ hv]
 cases b<;>cases want<;>rfl
theorem ta{ops:Array Oper}{o:Oper}{j g:Nat}{want:Bool}(ug:o.guard=some (j,want))(hd:(match(ops.toList.map (·.dst))[j]? with|some d=>d|none=>none)=some g){a:Act}(hv:a.tmps.getD g undef=.tuple #[]):
 Region.wanted o (yielded ops a.tmps)=false:=by
 have rZ:(ops.toList.map (·.dst))[j]?=some (some g):=by
  split at hd
  ·rename_i e;rw[e,hd]
  ·cases hd
 have h1:(ops[j]?).bind (·.dst)=some g:=by
  simp only[bo,bO,aJ]at rZ;obtain⟨o,ho,jb⟩:=rZ;simp[ho,jb]
 have hy:yielded ops a.tmps j=none:=by
  unfold yielded;rw[h1]
  rw[aH]at hv;cases e:a.tmps[g]? with
  |none=>simp[e]
  |some v=>rw[e]at hv;simp at hv;simp[e,hv]
 unfold Region.wanted;rw[ug]
 simp only[hy]
 rfl
theorem wU{v:Value}{E:fZ U El}(h:Rel E S ρ w (.bP []) v):v=.tuple #[]:=by
 cases h with
 |bP _ vs hl _=>
  have:vs=#[]:=jP (by simpa using hl)
  rw[this]
theorem tE{E:fZ U El}:Rel E S ρ w (.bP []:AV U El) undef:=.bP [] #[] rfl ae
theorem uq{sR:Iz U El}{k:St U El->Option (Fin U El)}{ops:Array Oper}{Q:Exit->Act->World->Prop}{K:Act->World->Prop}(hX:bp P X)(hM:C_ sR P X)(hP:Bw sR X B S0 w0 r Q){o:Oper}{j:Nat}{st:St U El}{a:Act}{w:World}(ho:ops[j]?=some o)
 (hN:∀bx a' w',bK X B S0 w0 bx a' w'->k bx=some r->K a' w') (hs:bK X B S0 w0 st a w) (Um:∀e,o.dst=some e->e<X.nt) (hv:ju X (ops.toList.map (·.dst)) [o] st k=some r):wpOp P ops Q j K a w:=by
 unfold wpOp;rw[ho]
 simp only[ju]at hv;have next:∀bx a' w',bK X B S0 w0 bx a' w'->ju X (ops.toList.map (·.dst)) [] bx k=some r->K a' w':=λbx a' w' iM eC=>hN bx a' w' iM eC
 have EK:∀(t:eH U El),bK X B S0 w0 ⟨t,st.h⟩ a w->jQ o t (λt=>ox o ⟨t,st.h⟩ λqq=>qp X o qq λbx=>ju X (ops.toList.map (·.dst)) [] bx k)=some r->o.wp P a w K Q:=by
  intro t mq hw;obtain⟨t',hk,lS⟩:=l7 hw;have CG:bK X B S0 w0 ⟨t',st.h⟩ a w:=by
   rcases lS with rfl|⟨g,b,hg,rfl⟩
   ·exact mq
   ·exact mq.refine hg
  obtain⟨KB,⟨S,ρ,hi⟩,yw⟩:=mZ hX CG hk;exact qo hX hM hi yw hP next
 unfold guardOf at hv;cases ug:o.guard with
 |none=>
  rw[ug]at hv;simp only at hv;have hw:Region.wanted o (yielded ops a.tmps)=true:=by simp[Region.wanted,ug]
  simp only[hw,if_true]
  exact .inl (EK st.t hs hv)
 |some jw=>
  obtain⟨gj,want⟩:=jw;rw[ug]at hv;simp only at hv;split at hv
  ·rename_i h;cases h
  ·rename_i g OX heq;simp only[bX,dw]at heq;obtain⟨MX,rfl⟩:=heq;have skip:∀(t:eH U El),bK X B S0 w0 ⟨t,st.h⟩ a w->ju X (ops.toList.map (·.dst)) [] ⟨match o.dst with|some d=>(d,.bP [])::t|none=>t,st.h⟩ k=some r->K (a.put o.dst undef) w:=by
    intro t hs2 eC;refine next _ _ _ ?_ eC
    obtain⟨S,ρ,xV⟩:=hs2;refine⟨S,ρ,by cases o.dst<;>exact xV.defers,by cases o.dst<;>simp[Act.put,xV.size],xV.below,xV.hB,xV.s0,xV.s1,xV.g0,?_,xV.heap⟩
    have:=mW (d:=o.dst) (v:=undef) (av:=AV.bP []) (λe he=>by rw[xV.size];exact Um e he) xV.tmps tE;cases LP:o.dst<;>rw[LP]at this<;>exact this
   rcases rH hv with⟨b,hb,eC⟩|⟨hb,eC⟩
   ·have hs2:=hs.refine hb;obtain⟨S,ρ,hi⟩:=hs;have WG:a.tmps.getD g undef=.bool b:=by
     have:=hi.tmps g;rw[hb]at this;generalize a.tmps.getD g undef=q at this;cases this;rfl
    have hw:=uU ug MX WG;cases hx:Bool.xor b want with
    |true=>
     rw[hx]at eC hw;simp only[cond]at eC;simp only[hw,fc,gY,if_false]
     exact skip _ hs2 eC
    |false=>
     rw[hx]at eC hw;simp only[cond]at eC;simp only[hw,iQ,if_true]
     exact .inl (EK _ hs2 eC)
   ·have WD:a.tmps.getD g undef=.tuple #[]:=by
     obtain⟨S,ρ,hi⟩:=hs;have:=hi.tmps g;rw[hb]at this;exact wU this
    have hw:=ta ug MX WD;have hx:Bool.xor (!want) want=true:=by cases want<;>rfl
    rw[hx]at eC;simp only[cond]at eC;simp only[hw,gY,if_false]
    exact skip _ hs eC
  ·cases hv
theorem Ba{sR:Iz U El}{k:St U El->Option (Fin U El)}{ops:Array Oper}{Q:Exit->Act->World->Prop}(hX:bp P X)(hM:C_ sR P X)(hP:Bw sR X B S0 w0 r Q)(hN:∀bx a' w',bK X B S0 w0 bx a' w'->k bx=some r->Q .normal a' w'):
 ∀(os:ah Oper) (j:Nat) (st:St U El) (a:Act) (w:World),ops.toList.drop j=os->bK X B S0 w0 st a w->(∀o∈os,∀e,o.dst=some e->e<X.nt)->ju X (ops.toList.map (·.dst)) os st k=some r->wpOps P ops Q (List.range' j os.length) a w:=by
 intro os;induction os with
 |nil=>intro j st a w hd hs _ hv;exact hN st a w hs hv
 |cons o os ih=>
  intro j st a w hd hs jb hv;have ho:ops[j]?=some o:=by
   have:(ops.toList.drop j)[0]?=some o:=by rw[hd];rfl
   rw[cg]at this;simpa using this
  have rZ:ops.toList.drop (j+1)=os:=by
   rw[<-List.drop_drop,hd];rfl
  simp only[cI,lJ]
  rw[wpOps_cons]
  refine uq (k:=λbx=>ju X (ops.toList.map (·.dst)) os bx k) hX hM hP ho (λbx a' w' iM eC=>ih (j+1) bx a' w' rZ iM (λo ho=>jb o (by simp[ho])) eC) hs (jb o ae) ?_;exact hv
theorem yQ(m i j:Nat):Nat.testBit (m|||2^i) j=(Nat.testBit m j||decide (i=j)):=by rw[Nat.testBit_or,Nat.testBit_two_pow]
theorem zj{ops:Array Oper}{listed:Array Bool}{dn:Nat}(hsz:listed.size=ops.size)(hl: ∀i,listed.getD i false=Nat.testBit dn i)(i:Nat):i∈Cm ops.toList dn↔i∈Region.ready .any ops listed:=by
 unfold Cm;rw[oO,mR,mem_ready]
 constructor
 ·rintro⟨h1,h2⟩
  have hi:i<ops.size:=by simpa using h1
  have ho:ops[i]?=some ops[i]:=aC hi;rw[aj]at h2;obtain⟨h2,h3⟩:=h2;rw[bO,ho]at h3;refine⟨?_,_,ho,λe he hb=>?_⟩
  ·have e1:listed.getD i true=listed.getD i false:=by simp[aH,aC (show i<listed.size by omega)]
   rw[e1,hl]
   simpa using h2
  ·have:=aP.1 h3 e (by simpa using he)
   rw[hb]at this;rw[hl]
   simpa using this
 ·rintro⟨h1,o,ho,h2⟩
  have hi:i<ops.size:=(aX.1 ho).1;refine⟨by simpa using hi,?_⟩
  rw[aj]
  refine⟨?_,?_⟩
  ·have e1:listed.getD i true=listed.getD i false:=by simp[aH,aC (show i<listed.size by omega)]
   rw[e1,hl]at h1;simp[h1]
  ·rw[bO,ho]
   refine aP.2 λe he=>?_
   cases hb:Region.binds .any e with
   |false=>rfl
   |true=>
    have:=h2 e (by simpa using he) hb;rw[hl]at this;simp[this]
theorem C4{sR:Iz U El}{k:St U El->Option (Fin U El)}{ops:Array Oper}{Q:Exit->Act->World->Prop}(hX:bp P X)(hM:C_ sR P X)(hP:Bw sR X B S0 w0 r Q)(hN: ∀bx a' w',bK X B S0 w0 bx a' w'->k bx=some r->Q .normal a' w')
 (jb:∀o∈ops.toList,∀e,o.dst=some e->e<X.nt):∀(n:Nat) (listed:Array Bool) (dn:Nat) (st:St U El) (a:Act) (w:World),listed.size=ops.size->(∀i,listed.getD i false=Nat.testBit dn i)->bK X B S0 w0 st a w->xr X (ops.toList.map (·.dst)) ops.toList k n dn st=some r->wpAny P .any ops Q n listed a w:=by
 intro n;induction n with
 |zero=>
  intro listed dn st a w hsz hl hs hv;have Eo:=zj hsz hl;unfold xr at hv;split at hv
  ·rename_i hr;refine⟨List.eq_nil_iff_forall_not_mem.2 λi hi=>?_,hN st a w hs hv⟩
   have:=(Eo i).2 hi;rw[hr]at this;cases this
  ·cases hv
 |succ n ih=>
  intro listed dn st a w hsz hl hs hv;have Eo:=zj hsz hl;unfold xr at hv;split at hv
  ·rename_i hr;refine⟨λ_=>hN st a w hs hv,λi hi=>?_⟩
   have:=(Eo i).2 hi;rw[hr]at this;cases this
  ·rename_i i0 is hr;refine⟨λh=>?_,λi hi=>?_⟩
   ·have:i0∈Region.ready .any ops listed:=(Eo i0).1 (by rw[hr];simp)
    rw[h]at this;cases this
   ·obtain⟨_,o,ho,_⟩:=mem_ready.1 hi;have hlt:i<ops.size:=(aX.1 ho).1;have hm:i∈i0::is:=by rw[<-hr];exact(Eo i).2 hi
    have:=JU _ hv _ (eT.2 ⟨i,hm,rfl⟩)
    rw[bO,ho]at this;refine uq hX hM hP ho (λbx a' w' iM rm=>ih _ (dn|||2^i) bx a' w' (by simpa using hsz) (λj=>?_) iM rm) hs (jb o (by rw[<-bO]at ho;exact aD ho)) this;rw[yQ,<-hl j]
    simp only[aH]
    by_cases e:i=j
    ·subst e;rw[db ab]
     simp
    ·rw[eb e]
     simp[e]
theorem zi{sR:Iz U El}{k:St U El->Option (Fin U El)}{id:Nat}{ops:Array Oper}{Q:Exit->Act->World->Prop}(hX:bp P X)(hM:C_ sR P X)(hP:Bw sR X B S0 w0 r Q)(hs:bK X B S0 w0 st a w)(hN:∀bx a' w',bK X B S0 w0 bx a' w'->k bx=some r->Q .normal a' w')
 (jb:∀o∈ops.toList,∀e,o.dst=some e->e<X.nt) (hv:xr X (ops.toList.map (·.dst)) ops.toList k ops.toList.length 0 st=some r):(Code.region id ops true).wp P Q a w:=by
 obtain⟨S,ρ,hi⟩:=hs;rw[cW]at hv;refine wp_region_any hX.mixed (C4 hX hM hP hN jb ops.size _ 0 st a _ ae (λi=>?_) ⟨S,ρ,?_⟩ hv)
 ·rw[Nat.zero_testBit,aH]
  by_cases h:i<ops.size<;>simp[h]
 ·exact⟨hi.defers,hi.size,hi.below.drew,hi.hB,hi.s0,hi.s1,hi.g0,λi=>(hi.tmps i).mono (λ_ h=>h) (λ_ _=>rfl) (λ_ _ h=>h),⟨λj b hg=>by obtain⟨l,h1,h2⟩:=hi.heap.get j b hg;exact⟨l,h1,h2.mono (λ_ h=>h) (λ_ _=>rfl) (λ_ _ h=>h) (λhn=>⟨rfl,(h2.lt hn).2.2⟩)⟩,hi.heap.inj,hi.heap.lt⟩⟩
theorem Bf{sR:Iz U El}{k:St U El->Option (Fin U El)}{id:Nat}{ops:Array Oper}{Q:Exit->Act->World->Prop}(hX:bp P X)(hM:C_ sR P X)(hP:Bw sR X B S0 w0 r Q)(hs:bK X B S0 w0 st a w)(hN:∀bx a' w',bK X B S0 w0 bx a' w'->k bx=some r->Q .normal a' w')
 (jb:∀o∈ops.toList,∀e,o.dst=some e->e<X.nt) (hv:ju X (ops.toList.map (·.dst)) ops.toList st k=some r):(Code.region id ops false).wp P Q a w:=by
 refine wp_region ?_;have:=Ba (ops:=ops) hX hM hP hN ops.toList 0 st a w rfl hs jb hv;rwa [cW,<-k_]at this
end
end Go.Proofs.YtfmamkmmohilgaaGreatDoor
namespace Go.Proofs.YtfmamkmmohilgaaGreatDoor
open IntKind
set_option linter.all false
open Go.RowKit
section
variable{U:Type}{El:U->Type}{P:Program}{X:Ctx U El} [DecidableEq U]
variable{o:Oper}{t:eH U El}{h:bI U El}{d:Nat}{r:Fin U El}
def Bx{α:Type}(f:(α->Option (Fin U El))->Option (Fin U El)):Prop:=∃oo:Option α,∀k,f k=oo.bind k
theorem fw{α:Type}(x:α):Bx (U:=U) (El:=El) (λk=>k x):=⟨some x,λ_=>rfl⟩
theorem bk{α:Type}:Bx (U:=U) (El:=El) (λ(_:α->Option (Fin U El))=>none):=⟨none,λ_=>rfl⟩
theorem eD{α:Type}{f:(α->Option (Fin U El))->Option (Fin U El)}(b:Bool)(h:Bx f):Bx (λk=>aU b (f k)):=by
 cases b
 ·exact⟨none,λ_=>rfl⟩
 ·exact h
theorem Ap{α β:Type}{f:(α->Option (Fin U El))->Option (Fin U El)}(g:α->(β->Option (Fin U El))->Option (Fin U El))(h:Bx f)(hg:∀x,Bx (g x)):Bx (λk=>f λx=>g x k):=by
 obtain⟨oo,ho⟩:=h;cases oo with
 |none=>exact⟨none,λk=>ho _⟩
 |some x=>
  obtain⟨o2,h2⟩:=hg x;exact⟨o2,λk=>(ho _).trans (h2 k)⟩
theorem Bx.k{α:Type}{f:(α->Option (Fin U El))->Option (Fin U El)}(h:Bx f){k:α->Option (Fin U El)}(hv:f k=some r):∃x,k x=some r/\∀k',f k'=k' x:=by
 obtain⟨oo,ho⟩:=h;cases oo with
 |none=>rw[ho]at hv;cases hv
 |some x=>exact⟨x,by rw[ho]at hv;exact hv,λk'=>ho k'⟩
theorem GK{α:Type}{g:Nat->(α->Option (Fin U El))->Option (Fin U El)}(i:Int)(hg:∀q,Bx (g q)):∀m j,Bx (λk=>xm i j m λq=>g q k):=by
 intro m;induction m with
 |zero=>intro j;exact bk
 |succ m ih=>
  intro j;simp only[xm]
  cases(i==Int.ofNat j)with
  |true=>exact hg j
  |false=>exact ih (j+1)
theorem CU{α:Type}{g:Nat->(α->Option (Fin U El))->Option (Fin U El)}(n:Nat)(i:Int)(hg:∀q,Bx (g q)):Bx (λk=>Gh n i λq=>g q k):=by
 unfold Gh;cases Nat.ble n 8 with
 |true=>exact GK i hg n 0
 |false=>exact eD _ (hg _)
theorem uZ(cs:ah (AV U El))(off sz:Nat)(ag:Bool):Bx (partOf cs off sz ag):=by
 unfold partOf;cases ag with
 |true=>exact eD _ (fw _)
 |false=>
  simp only[cond]
  cases cs[off]? with
  |none=>exact bk
  |some c=>exact fw c
theorem Mk(p:AV U El):Bx (λ(k:ah (AV U El)×Nat->Option (Fin U El))=>view X h p λcs off=>k (cs,off)):=by
 unfold view;cases p<;>try exact bk
 case ptr id off=>
  dsimp only;cases aN h id with
  |none=>exact bk
  |some b=>
   cases b with
   |rows u xs=>exact bk
   |box tg cs=>exact fw (cs,off)
   |map u v es=>exact bk
   |jC u ks cs=>exact bk
   |pZ t u xs=>exact bk
   |uk T j=>exact bk
 case row id i off=>
  dsimp only;cases aN h id with
  |none=>exact bk
  |some b=>
   cases b with
   |rows u xs=>exact eD _ (fw (_,off))
   |box tg cs=>exact bk
   |map u v es=>exact bk
   |jC u ks cs=>exact bk
   |pZ t u xs=>exact eD _ (fw (_,off))
   |uk T j=>exact bk
 case pel u xs i off=>exact fw (_,off)
 case pcs cs off=>exact fw (cs,off)
theorem GL(op:BinOp)(ts:ah Nat)(x y:AV U El):Bx (xt op ts x y):=by
 cases x<;>cases y<;>first
  |exact bk
  |(cases op<;>unfold xt<;>dsimp only<;>first
   |exact bk
   |exact fw _
   |exact eD _ (fw _)
   |exact eD _ (eD _ (fw _))
   |(refine eD _ ?_;simp only[AA];first|exact fw _|exact bk)
   |(cases ts.isEmpty<;>simp only[cond]<;>first|exact bk|(generalize gS ts _ _=q;cases q<;>first|exact bk|exact fw _)))
theorem Ik{f:(AV U El->Option (Fin U El))->Option (Fin U El)}(h:Bx f):Bx (λ(k:Out U El->Option (Fin U El))=>f λv=>k ⟨v,[]⟩):=Ap (λ(v:AV U El) (k:Out U El->Option (Fin U El))=>k ⟨v,[]⟩) h (λv=>fw _)
theorem Ak(hs: ∀f vs,Bx (λ(k:AV U El×bI U El->Option (Fin U El))=>X.spec f vs λr e=>k (r,e))):Bx (evalOp X o t h d):=by
 unfold evalOp;cases o.op<;>try exact bk
 case move x=>exact fw _
 case assign x=>exact fw _
 case pick c a b=>
  dsimp only;cases bm t c<;>first|exact bk|(rename_i b;cases b<;>exact fw _)
 case alloc e=>
  have nN:Bx (λ(k:Out U El->Option (Fin U El))=>match xN X.zeros e with
   |some z=>match cellsOf (jL z)with
    |some cs=>k ⟨.ptr d 0,[(d,.box 0 cs)]⟩
    |none=>none
   |none=>none):=by
   cases xN X.zeros e with
   |none=>exact bk
   |some z=>
    dsimp only;cases cellsOf (jL z:AV U El)<;>first|exact bk|exact fw _
  dsimp only;cases dS X.iH e with
  |none=>exact nN
  |some td=>cases td<;>first|exact nN|exact eD _ (fw _)
 case box e x=>
  dsimp only;cases cellsOf (bm t x)<;>first|exact bk|exact fw _
 case build ty ps=>
  dsimp only;cases dS X.iH ty with
  |none=>exact bk
  |some td=>
   cases td<;>try exact bk
   ·dsimp only;generalize Gg t _ _ ps.toList=q;cases q<;>first|exact bk|exact eD _ (fw _)
   ·dsimp only;generalize kG t _ 0 0 _ ps.toList=q;cases q<;>first|exact bk|exact eD _ (fw _)
 case buildSlice ty n ps=>
  dsimp only;cases dS X.iH ty with
  |none=>exact bk
  |some td=>
   cases td<;>try exact bk
   ·dsimp only;cases Nat.blt 0 (X.E.xn ty)with
    |true=>
     refine eD _ ?_;generalize w8 t 0 ps.toList=q;cases q<;>first|exact bk|exact fw _
    |false=>
     refine eD _ (eD _ ?_)
     generalize tP X.E _ t 0 ps.toList=q;generalize rD t 0 ps.toList=q';cases X.E.Av _
     ·cases q<;>first|exact bk|exact fw _
     ·cases q'<;>first|exact bk|exact eD _ (fw _)
 case load ty p=>
  dsimp only;cases dS X.iH ty with
  |none=>exact bk
  |some td=>
   dsimp only;cases xy td with
   |none=>exact bk
   |some q=>
    obtain⟨sz,ag⟩:=q;dsimp only;refine Ap (f:=λ(k:ah (AV U El)×Nat->Option (Fin U El))=>view X h (bm t p) λcs off=>k (cs,off)) (λq (k:Out U El->Option (Fin U El))=>partOf q.1 q.2 sz ag λv=>k ⟨v,[]⟩) (Mk _) (λq=>?_)
    exact Ik (uZ _ _ _ _)
 case nilCheck x=>
  dsimp only;cases bm t x<;>first|exact bk|exact fw _
 case binOp op ty x y yt=>
  dsimp only;exact eD _ (Ik (GL _ _ _ _))
 case unOp u ty x=>
  dsimp only;cases u<;>cases bm t x<;>first|exact bk|exact fw _
 case makeMap ty rs=>
  cases rs with
  |some y=>exact bk
  |none=>
   dsimp only;cases dS X.iH ty with
   |none=>exact bk
   |some td=>cases td<;>first|exact bk|exact fw _
 case lookup ty m ix ok=>
  dsimp only;cases dS X.iH ty with
  |none=>exact bk
  |some td=>
   cases td<;>cases bm t m<;>dsimp only<;>first
    |exact bk
    |(refine eD _ ?_
      generalize ya X.E _ (bm t ix)=q;cases q<;>first|exact bk|exact fw _)
    |(cases aN h _ with
      |none=>exact bk
      |some b=>
       cases b<;>dsimp only<;>first
        |exact bk
        |(refine eD _ ?_
          generalize ya X.E _ (bm t ix)=q;cases q<;>first|exact bk|exact fw _))
 case convert s ty x=>
  dsimp only;cases dS X.iH s with
  |none=>exact bk
  |some d1=>
   cases dS X.iH ty with
   |none=>exact bk
   |some td=>cases td<;>cases bm t x<;>first|exact bk|exact fw _|(cases d1<;>dsimp only<;>first|exact bk|exact eD _ (fw _))
 case makeFunc fn aaa bs=>
  cases fn<;>first|exact bk|exact fw _
 case makeSlice ty n c=>
  dsimp only;cases dS X.iH ty with
  |none=>exact bk
  |some td=>
   cases td<;>cases bm t n<;>cases bm t c<;>first
    |exact bk
    |(dsimp only
      cases Nat.blt 0 (X.E.xn ty)with
      |false=>exact eD _ (fw _)
      |true=>
       refine eD _ ?_;cases xN X.zeros (X.E.tid _)with
       |none=>exact bk
       |some z=>
        dsimp only;generalize cellsOf (jL z:AV U El)=q;cases q with
        |none=>exact bk
        |some q=>
         match q with
         |[]=>exact bk
         |[c]=>exact fw _
         |_::_::_=>exact bk)
 case slice ty x lo hi mx=>
  cases mx with
  |some m=>exact bk
  |none=>
   dsimp only;cases dS X.iH ty with
   |none=>exact bk
   |some td=>
    cases td<;>cases bm t x<;>dsimp only<;>first
     |exact bk
     |((repeat' split)<;>first|exact bk|exact eD _ (fw _)|exact eD _ (eD _ (fw _)))
     |(generalize (match lo with|some o=>bm t o|none=>AV.int i64 0)=q1
       generalize (match hi with|some o=>bm t o|none=>AV.int i64 _)=q2;cases q1<;>cases q2<;>first|exact bk|exact eD _ (fw _)|exact eD _ (eD _ (fw _)))
     |(cases aN h _ with
       |none=>exact bk
       |some b=>
        cases b with
        |box tg cs=>exact bk
        |map u v es=>exact bk
        |jC u ks cs=>exact bk
        |pZ t u xs=>exact bk
        |uk T j=>exact bk
        |rows u xs=>
         dsimp only;generalize (match lo with|some o=>bm t o|none=>AV.int i64 0)=q1;generalize (match hi with|some o=>bm t o|none=>AV.int i64 _)=q2;cases q1<;>cases q2<;>first|exact bk|exact eD _ (fw _)|exact eD _ (eD _ (fw _)))
 case fieldAddr s p f=>
  dsimp only;cases dS X.iH s with
  |none=>exact bk
  |some td=>
   cases td<;>try exact bk
   dsimp only;generalize (_:ah (Nat×Nat×Bool))[f]?=q;cases q with
   |none=>exact bk
   |some q=>obtain⟨a,b,c⟩:=q;dsimp only;cases bm t p<;>first|exact bk|exact fw _
 case field s x f=>
  dsimp only;cases dS X.iH s with
  |none=>exact bk
  |some td=>
   cases td<;>try exact bk
   dsimp only;generalize (_:ah (Nat×Nat×Bool))[f]?=q;cases q with
   |none=>exact bk
   |some q=>
    obtain⟨a,b,c⟩:=q;dsimp only;cases bm t x<;>first|exact bk|exact Ik (uZ _ _ _ _)
 case indexAddr ty x ix=>
  dsimp only;cases dS X.iH ty with
  |none=>exact bk
  |some td=>
   cases td<;>cases bm t ix<;>try exact bk
   ·dsimp only
    cases bm t x<;>dsimp only<;>first
     |exact bk
     |exact eD _ (eD _ (fw _))
     |(cases aN h _ with
       |none=>exact bk
       |some b=>cases b<;>first|exact bk|exact eD _ (eD _ (fw _))|exact eD _ (CU _ _ λ_=>fw _))
   ·dsimp only;cases bm t x<;>dsimp only<;>first|exact bk|exact CU _ _ λ_=>fw _
 case index ty x ix=>
  dsimp only;cases dS X.iH ty with
  |none=>exact bk
  |some td=>
   cases td<;>cases bm t ix<;>try exact bk
   ·dsimp only;cases bm t x<;>dsimp only<;>first|exact bk|exact eD _ (fw _)
   ·dsimp only;cases bm t x<;>dsimp only<;>first|exact bk|exact CU _ _ λ_=>Ik (uZ _ _ _ _)
 case extract x i=>
  dsimp only;cases bm t x<;>try exact bk
  dsimp only;generalize (_:ah (AV U El))[i]?=q;cases q<;>first|exact bk|exact fw _
 case call c=>
  obtain⟨callee,aaa,ts⟩:=c;cases callee with
  |value f=>
   dsimp only;cases bm t f with
   |fn g first mO=>
    dsimp only;generalize toArgs X h (first++aaa.toList.map (bm t)++mO) _=q;cases q with
    |none=>exact bk
    |some vs=>
     dsimp only;exact Ap (f:=λ(k:AV U El×bI U El->Option (Fin U El))=>X.spec g vs λr e=>k (r,e))
      (λq (k:Out U El->Option (Fin U El))=>aU (AV.FO AV.cell q.1&&sD q.2&&((AV.FO AV.re q.1&&uz X.E q.2)||(first++aaa.toList.map (bm t)++mO).all AV.plain)) (k ⟨tH d q.1,pY d q.2⟩)) (hs _ _) (λq=>eD _ (fw _))
   |_=>exact bk
  |invoke x m=>exact bk
  |builtin b=>
   cases b<;>try exact bk
   case len=>
    dsimp only;rcases aaa.toList with _|⟨x,_|⟨y,l⟩⟩<;>try exact bk
    rcases ts.toList with _|⟨ty,l⟩<;>try exact bk
    dsimp only;cases lenOf h (bm t x)<;>first|exact bk|exact eD _ (fw _)
   case max=>
    dsimp only;rcases aaa.toList with _|⟨x,_|⟨y,_|⟨z,l⟩⟩⟩<;>try exact bk
    dsimp only;cases bm t x<;>cases bm t y<;>first|exact bk|exact fw _
   case min=>
    dsimp only;rcases aaa.toList with _|⟨x,_|⟨y,_|⟨z,l⟩⟩⟩<;>try exact bk
    dsimp only;cases bm t x<;>cases bm t y<;>first|exact bk|exact fw _
end
end Go.Proofs.YtfmamkmmohilgaaGreatDoor
namespace Go.Proofs.YtfmamkmmohilgaaGreatDoor
open IntKind
set_option linter.all false
open Go.RowKit
section
variable{U:Type}{El:U->Type}{P:Program}{X:Ctx U El}{S S0:Nat->Prop}{ρ ρ':eJ}{w w0:World} [DecidableEq U] [tD]
variable{o:Oper}{a:Act}{st:St U El}{B:Bd}{d:Nat}{r:Fin U El}
def ga(ops:Array Oper)(i:Nat):Option Nat:=(ops[i]?).bind (·.dst)
def ke(ops:Array Oper)(i:Nat):ah Nat:=match ops[i]? with|some o=>dP o (o.dst.getD 999)|none=>[]
def dL(ops:Array Oper)(i:Nat):ah Nat:=match ops[i]? with|some o=>Oper.looks (ops.toList.map (·.dst)) o|none=>[]
abbrev jH(ops:Array Oper)(ws:ah (Nat×Nat))(i:Nat):Nat->Bool:=zb (o_ ops.toList []) (qi ops.toList ws) i
theorem nX(p:Nat->Bool)(h:bI U El)(id:Nat):aN (iy p h) id=if p id=true then aN h id else none:=by
 induction h with
 |nil=>simp[iy,aN]
 |cons q h ih=>
  obtain⟨j,b⟩:=q;simp only[iy]
  cases hp:p j with
  |true=>
   simp only[cond,aN,ih]
   by_cases e:j=id
   ·subst e;rw[aG];simp[hp]
   ·rw[aO e]
  |false=>
   simp only[cond,aN,ih]
   by_cases e:j=id
   ·subst e;simp[hp]
   ·rw[aO e]
theorem fp(ids:ah Nat):∀(h:bI U El) (id:Nat),aN (il h ids) id=if id∈ids then none else aN h id:=by
 induction ids with
 |nil=>intro h id;simp[il]
 |cons i ids ih=>
  intro h id;simp only[il,ih,lz,bN]
  by_cases e:id=i
  ·subst e;simp
  ·simp[e]
theorem fa.congr{E:fZ U El}{H H':bI U El}(h:fa E S ρ w B H)(he:∀id,aN H' id=aN H id):fa E S ρ w B H':=⟨λid b hg=>h.get id b (by rw[<-he];exact hg),λi j b b' l l' hi hj=>h.inj i j b b' l l' (by rw[<-he];exact hi) (by rw[<-he];exact hj),h.lt⟩
structure Vd (X:Ctx U El) (B:Bd) (S:Nat->Prop) (ρ:eJ) (w:World) (S':Nat->Prop) (ρ':eJ) (w':World) (ids wi:List Nat) (H nw:bI U El) (v:AV U El) (v':Value):Prop where
 below:Fr B w w'
 s1:∀b,S b->S' b
 s2:∀b,S' b->S b\/B.own b
 MR:∀id,id∉ids->ρ' id=ρ id
 rel:∀c x,Rel X.E S ρ w c x->Rel X.E S' ρ' w' c x
 heap:fa X.E S' ρ' w' B (nw++il H wi)
 val:Rel X.E S' ρ' w' v v'
def tC(P:Program)(X:Ctx U El)(ops:Array Oper)(Q:Exit->Act->World->Prop)(ws:ah (Nat×Nat))(i:Nat)(T:Nat->AV U El)(h:bI U El)(v:AV U El)(nw:bI U El):Prop:=
 ∀(S:Nat->Prop) (ρ:eJ) (w:World) (a:Act) (B:Bd) (H:bI U El) (K:Act->World->Prop),a.defers=B.df->a.tmps.size=X.nt->(∀k,w.heap.size<=k->B.own k)->(∀w',Fr B w w'->X.E.G w')->
  (∀x∈dL ops i,Rel X.E S ρ w (T x) (a.tmps.getD x undef))->fa X.E S ρ w B H->(∀id b,jH ops ws i id=true->aN h id=some b->aN H id=some b)->(∀id∈ke ops i,ρ id=none)->
  (∀v' w' S' ρ',Vd X B S ρ w S' ρ' w' (ke ops i) (iw ws i) H nw v v'->K (a.put (ga ops i) v') w')->
  wpOp P ops Q i K a w
theorem qM{ops:Array Oper}{o:Oper}{x:Nat}(h:Operand.tmp x∈o.op.operands):x∈Oper.looks (ops.toList.map (·.dst)) o:=by unfold Oper.looks;refine List.mem_append_left _ (List.mem_filterMap.2 ⟨.tmp x,by simpa using h,rfl⟩)
theorem xD{ops:Array Oper}{o:Oper}{j g:Nat}{want:Bool}(hg:o.guard=some (j,want))(hd:(match(ops.toList.map (·.dst))[j]? with|some d=>d|none=>none)=some g):g∈Oper.looks (ops.toList.map (·.dst)) o:=by
 unfold Oper.looks;refine List.mem_append_right _ ?_;rw[hg]
 simp only;split at hd
 ·rename_i e;rw[e,hd];simp
 ·cases hd
structure Trace (P:Program) (X:Ctx U El) (ops:Array Oper) (Q:Exit->Act->World->Prop) (ws:List (Nat×Nat)) (j:Nat) (t:eH U El) (h:bI U El) (k:St U El->Option (Fin U El)) (r:Fin U El)
 (v:Nat->AV U El) (nw:Nat->bI U El) (T:Nat->Nat->AV U El) (Hs:Nat->bI U El) (bx:St U El):Prop where
 T0:∀x,T j x=cC t x
 H0:Hs j=h
 stepT:∀i,j<=i->i<ops.size->∀x,T (i+1) x=if ga ops i=some x then v i else T i x
 KA:∀i,j<=i->i<ops.size->∀id,(id∈iw ws i\/aN (nw i) id≠none)->aN (Hs (i+1)) id=aN (nw i) id
 Kz:∀i,j<=i->i<ops.size->∀id,¬(id∈iw ws i\/aN (nw i) id≠none)->aN (Hs (i+1)) id=aN (Hs i) id
 keys:∀i,j<=i->i<ops.size->∀id,aN (nw i) id≠none->id∈ke ops i\/id∈iw ws i
 fact:∀i,j<=i->i<ops.size->tC P X ops Q ws i (T i) (Hs i) (v i) (nw i)
 UM:∀x,cC bx.t x=T ops.size x
 UP:bx.h=Hs ops.size
 UO:k bx=some r
theorem Cl{t:eH U El}{g:Nat}{b:Bool}(hg:cC t g=.bool b)(x:Nat):cC ((g,.bool b)::t) x=cC t x:=by
 simp only[cC]
 by_cases e:g=x
 ·subst e;rw[aG,hg];rfl
 ·rw[aO e];rfl
theorem DE{h H:bI U El}{u:U}{x:AV U El}{ys:ah (El u)}(hs:∀id b,aN h id=some b->aN H id=some b)(hy:rowsOf h u x=some ys):rowsOf H u x=some ys:=by
 cases x<;>simp only[rowsOf]at hy⊢ <;>try exact hy
 ·split at hy
  ·rename_i hg;rw[hs _ _ hg];exact hy
  ·cases hy
 ·split at hy
  ·rename_i hg;rw[hs _ _ hg];exact hy
  ·cases hy
theorem DD{h H:bI U El}{u:U}{x:AV U El}{q:ah (El u)×Option Nat}(hs:∀id b,aN h id=some b->aN H id=some b)(hy:sC h u x=some q):sC H u x=some q:=by
 cases x<;>simp only[sC]at hy⊢ <;>try exact hy
 ·split at hy
  ·rename_i hg;rw[hs _ _ hg];exact hy
  ·cases hy
 ·split at hy
  ·rename_i hg;rw[hs _ _ hg];exact hy
  ·cases hy
theorem vB(l:ah Nat)(T:Nat->AV U El)(x:Nat):cC (l.map λy=>(y,T y)) x=if x∈l then T x else .any:=by
 induction l with
 |nil=>simp[cC]
 |cons y l ih=>
  simp only[dx,cC,ih]
  by_cases e:y=x
  ·subst e;rw[aG];simp
  ·rw[aO e]
   simp[cq e]
theorem GB{ops:Array Oper}{Q:Exit->Act->World->Prop}{ws:ah (Nat×Nat)}{i:Nat}{T:Nat->AV U El}{h:bI U El}{ty:TypeId}{p v:Operand}{id:Nat}{b nN:qm U El}(hX:bp P X)(vh:ops[i]?=some o)(ho:o.op=.store ty p v)(jb:o.dst=none)(hw:iw ws i=[id])
 (mg:∀(S:Nat->Prop) (ρ:eJ) (w:World) (a:Act),(∀x∈dL ops i,Rel X.E S ρ w (T x) (a.tmps.getD x undef))->Region.wanted o (yielded ops a.tmps)=true) {t:eH U El} (ht:∀x,cC t x=T x)
 (Ec:jH ops ws i id=true) (hold:aN h id=some nN)
 (hall:∀(aA:St U El) (k2:St U El->Option (Fin U El)),aN aA.h id=some nN->lM X ty (bm t p) (bm t v) aA k2=k2 ⟨aA.t,iW aA.h id b⟩):
 tC P X ops Q ws i T h .any [(id,b)]:=by
 intro S ρ w a B H K CL hsz hB hG hT hH hs sq hn;have gr:dL ops i=Oper.looks (ops.toList.map (·.dst)) o:=by simp[dL,vh]
 have hd:ga ops i=none:=by simp[ga,vh,jb]
 have htl:∀x:Operand,x∈o.op.operands->bm ((dL ops i).map λy=>(y,T y)) x=bm t x:=λx hx=>by
  cases x with
  |tmp y=>
   show cC _ y=cC t y;rw[vB,if_pos (by rw[gr];exact qM hx),ht]
  |_=>rfl
 have LS:=hs id nN Ec hold;have hi:Inv X B S w S ρ ⟨(dL ops i).map λy=>(y,T y),H⟩ a w:=by
  refine⟨CL,hsz,Fr.refl B w,hB,λ_ h=>h,λ_ h=>.inl h,hG,λx=>?_,hH⟩
  show Rel X.E S ρ w (cC _ x) _;rw[vB]
  split
  ·rename_i hx;exact hT x hx
  ·exact .any _
 classical
 have hv:lM X ty (bm ((dL ops i).map λy=>(y,T y)) p) (bm ((dL ops i).map λy=>(y,T y)) v) ⟨(dL ops i).map λy=>(y,T y),H⟩ (λbx=>if bx=⟨(dL ops i).map λy=>(y,T y),iW H id b⟩then some ((.any,[]):Fin U El)else none)=some (.any,[]):=by
  rw[htl p (by simp[ho,Op.operands]),htl v (by simp[ho,Op.operands]),hall _ _ LS]
  simp
 unfold wpOp;rw[vh]
 simp only[mg S ρ w a hT,if_true]
 refine .inl (vD hX ho hi hv (λe he=>by rw[jb]at he;cases he) λbx w' hS hinv hk=>?_)
 have:bx=⟨(dL ops i).map λy=>(y,T y),iW H id b⟩:=by
  by_cases e:bx=⟨(dL ops i).map λy=>(y,T y),iW H id b⟩
  ·exact e
  ·simp[e]at hk
 subst this;have xa:a=a.put (ga ops i) undef:=by rw[hd];rfl
 rw[xa]
 refine hn undef w' S ρ ⟨hinv.below,λ_ h=>h,λ_ h=>.inl h,λ_ _=>rfl,λc x hr=>hr.mono (λ_ h=>h) hS (λ_ _ h=>h),?_,.any _⟩
 refine hinv.heap.congr λj=>?_
 show aN ([(id,b)]++il H (iw ws i)) j=aN (iW H id b) j;rw[hw,jq]
 simp only[eM,gh,aN,fp,cz]
 by_cases e:id=j
 ·subst e;rw[aG,LS,if_pos rfl];simp
 ·rw[aO e,if_neg (cq e)];simp[cq e]
theorem JB{ops:Array Oper}{Q:Exit->Act->World->Prop}{ws:ah (Nat×Nat)}{i:Nat}{T:Nat->AV U El}{h:bI U El}{ty:TypeId}{m ix x:Operand}{id:Nat}{b nN:qm U El}(hX:bp P X)(vh:ops[i]?=some o)(ho:o.op=.mapUpdate ty m ix x)(jb:o.dst=none)(hw:iw ws i=[id])
 (mg:∀(S:Nat->Prop) (ρ:eJ) (w:World) (a:Act),(∀x∈dL ops i,Rel X.E S ρ w (T x) (a.tmps.getD x undef))->Region.wanted o (yielded ops a.tmps)=true) {t:eH U El} (ht:∀x,cC t x=T x)
 (Ec:jH ops ws i id=true) (hold:aN h id=some nN)
 (hall:∀(aA:St U El) (k2:St U El->Option (Fin U El)),aN aA.h id=some nN->px X ty (bm t m) (bm t ix) (bm t x) aA k2=k2 ⟨aA.t,iW aA.h id b⟩):
 tC P X ops Q ws i T h .any [(id,b)]:=by
 intro S ρ w a B H K CL hsz hB hG hT hH hs sq hn;have gr:dL ops i=Oper.looks (ops.toList.map (·.dst)) o:=by simp[dL,vh]
 have hd:ga ops i=none:=by simp[ga,vh,jb]
 have htl:∀x:Operand,x∈o.op.operands->bm ((dL ops i).map λy=>(y,T y)) x=bm t x:=λx hx=>by
  cases x with
  |tmp y=>
   show cC _ y=cC t y;rw[vB,if_pos (by rw[gr];exact qM hx),ht]
  |_=>rfl
 have LS:=hs id nN Ec hold;have hi:Inv X B S w S ρ ⟨(dL ops i).map λy=>(y,T y),H⟩ a w:=by
  refine⟨CL,hsz,Fr.refl B w,hB,λ_ h=>h,λ_ h=>.inl h,hG,λx=>?_,hH⟩
  show Rel X.E S ρ w (cC _ x) _;rw[vB]
  split
  ·rename_i hx;exact hT x hx
  ·exact .any _
 classical
 have hv:px X ty (bm ((dL ops i).map λy=>(y,T y)) m) (bm ((dL ops i).map λy=>(y,T y)) ix) (bm ((dL ops i).map λy=>(y,T y)) x) ⟨(dL ops i).map λy=>(y,T y),H⟩ (λbx=>if bx=⟨(dL ops i).map λy=>(y,T y),iW H id b⟩then some ((.any,[]):Fin U El)else none)=some (.any,[]):=by
  rw[htl m (by simp[ho,Op.operands]),htl ix (by simp[ho,Op.operands]),htl x (by simp[ho,Op.operands]),hall _ _ LS]
  simp
 unfold wpOp;rw[vh]
 simp only[mg S ρ w a hT,if_true]
 refine .inl (sW hX (.inl ho) hi hv jb λbx w' hS hinv hk=>?_)
 have:bx=⟨(dL ops i).map λy=>(y,T y),iW H id b⟩:=by
  by_cases e:bx=⟨(dL ops i).map λy=>(y,T y),iW H id b⟩
  ·exact e
  ·simp[e]at hk
 subst this;have xa:a=a.put (ga ops i) undef:=by rw[hd];rfl
 rw[xa]
 refine hn undef w' S ρ ⟨hinv.below,λ_ h=>h,λ_ h=>.inl h,λ_ _=>rfl,λc x hr=>hr.mono (λ_ h=>h) hS (λ_ _ h=>h),?_,.any _⟩
 refine hinv.heap.congr λj=>?_
 show aN ([(id,b)]++il H (iw ws i)) j=aN (iW H id b) j;rw[hw,jq]
 simp only[eM,gh,aN,fp,cz]
 by_cases e:id=j
 ·subst e;rw[aG,LS,if_pos rfl];simp
 ·rw[aO e,if_neg (cq e)];simp[cq e]
theorem DF{h h':bI U El}{ty rk:TypeId}{u:U}{x:AV U El}{ys:ah (El u)}(hs:∀id b,aN h id=some b->aN h' id=some b)(hy:sE X ty rk h u x=some ys):sE X ty rk h' u x=some ys:=by
 unfold sE at*;cases he:Nat.beq ty rk with
 |true=>rw[he,cond_true]at hy;exact DE hs hy
 |false=>rw[he,cond_false]at hy;exact hy
theorem EB{ops:Array Oper}{Q:Exit->Act->World->Prop}{ws:ah (Nat×Nat)}{i:Nat}{T:Nat->AV U El}{h:bI U El}{ty rk:TypeId}{u:U}{s x:Operand}{xs ys:ah (El u)}{RA:Option Nat}(hX:bp P X)(vh:ops[i]?=some o)(ho:o.op=.call ⟨.builtin .append,#[s,x],#[ty,rk]⟩)(jb:o.dst=some d)(hw:iw ws i=RA.toList)
 (mg:∀(S:Nat->Prop) (ρ:eJ) (w:World) (a:Act),(∀x∈dL ops i,Rel X.E S ρ w (T x) (a.tmps.getD x undef))->Region.wanted o (yielded ops a.tmps)=true) {t:eH U El} (ht:∀x,cC t x=T x) (gM:dS X.iH ty=some (.slice u))
 (hfb:Af (bm t s)=true) (wC:sC (iy (jH ops ws i) h) u (bm t s)=some (xs,RA)) (xF:sE X ty rk (iy (jH ops ws i) h) u (bm t x)=some ys) (MZ:MC ty rk xs.length ys.length=true) (hb:(xs.length+ys.length)*X.E.AR u<=140737488355328) (hm:xs.length+ys.length<=9223372036854775807):
 tC P X ops Q ws i T h (.cf d) [(d,.rows u (xs++ys))]:=by
 intro S ρ w a B H K CL hsz hB hG hT hH hs sq hn;have iM:∀id b,aN (iy (jH ops ws i) h) id=some b->aN H id=some b:=λid b hg=>by
  rw[nX]at hg;split at hg
  ·rename_i Ec;exact hs id b Ec hg
  ·cases hg
 have gr:dL ops i=Oper.looks (ops.toList.map (·.dst)) o:=by simp[dL,vh]
 have o8:ke ops i=[d]:=by simp[ke,vh,dP,ho,jb]
 have N9:ρ d=none:=sq d (by rw[o8];simp)
 have LC:∀y∈o.op.operands,Rel X.E S ρ w (bm t y) (a.eval y):=λy hy=>Rel.bm λz e=>by
  subst e;rw[ht]
  exact hT z (by rw[gr];exact qM hy)
 have QG:=LC s (by simp[ho,Op.operands,Call.operands])
 have CF:=LC x (by simp[ho,Op.operands,Call.operands])
 obtain⟨nN,hsv,hold⟩:=zg hX hH QG hfb (DD iM wC)
 obtain⟨v',w',l',de,fJ⟩:=wv (ot:=o.type) hX hH hB (hX.td _ _ gM) hsv CF (DF iM xF) MZ hb hm;have Ee:(execOp a.eval o).run P w=.ok (.value v') w':=by
  simp only[execOp,ho,resolve,invoke,builtin,lL,dx,jf,Sem.run_bind,Sem.run_pure,Result.andThen_ok,de]
 unfold wpOp;rw[vh]
 simp only[mg S ρ w a hT,if_true]
 refine .inl ?_;unfold Oper.wp;rw[Ee]
 show K (a.put o.dst v') w';have rZ:ga ops i=o.dst:=by simp[ga,vh]
 rw[<-rZ]
 have Et:∀b,S b->w'.heap[b]?=w.heap[b]?:=λb hb=>fJ.block b (hH.lt b hb) (λe=>by
  obtain⟨j,l,_,_,_,_,hn0,Em,iV⟩:=hold b e.symm;exact(iV.lt hn0).2.2 (by rw[Em];exact hb))
 have lC:∀j l,ρ j=some l->(ρ.set d l') j=some l:=λj l h=>by
  by_cases e:j=d
  ·subst e;rw[N9]at h;cases h
  ·simp[eJ.set,e,h]
 have Fo:∀j b,aN (il H (iw ws i)) j=some b->aN H j=some b/\RA≠some j/\j≠d:=λj b hg=>by
  rw[fp]at hg;split at hg
  ·cases hg
  ·rename_i JZ;obtain⟨l,hl,_⟩:=hH.get j b hg;refine⟨hg,λe=>JZ (by rw[hw,e];simp),λe=>?_⟩
   subst e;rw[N9]at hl;cases hl
 have zZ:∀j b l,aN (il H (iw ws i)) j=some b->ρ j=some l->l.n≠0->some l.b≠nN:=λj b l hg hl hn0 e=>by
  obtain⟨RL,gn,_⟩:=Fo j b hg;obtain⟨j',l2,_,hid,Er,qx,pN,Em,iV⟩:=hold l.b e.symm;exact hH.inj j j' b _ l l2 RL Er (by rintro rfl;exact gn hid) hl qx hn0 pN Em.symm
 have e1:(ρ.set d l') d=some l':=by simp[eJ.set]
 refine hn v' w' S (ρ.set d l') ⟨⟨fJ.os,fJ.tape,fJ.output,fJ.size,fJ.drawn,λk hk XJ=>fJ.block k hk (λe=>XJ ?_)⟩,λ_ h=>h,λ_ h=>.inl h,λid hid=>?_,λc x hr=>hr.mono (λ_ h=>h) Et lC,⟨λj b hg=>?_,λj j' b b' l l2 kY lG gn oL lV o7 pN=>?_,λb hb=>fk (hH.lt b hb) fJ.size⟩,?_⟩
 ·obtain⟨j,l,_,_,_,_,hn0,Em,iV⟩:=hold k e.symm;rw[<-Em]
  exact(iV.lt hn0).2.1
 ·rw[o8]at hid;simp only[cz]at hid;simp[eJ.set,hid]
 ·simp only[eM,gh,aN]at hg;by_cases e:d=j
  ·subst e;rw[aG]at hg;cases hg;exact⟨l',e1,fJ.blk _⟩
  ·rw[aO e]at hg;simp only[cond]at hg;obtain⟨RL,_,_⟩:=Fo j b hg;obtain⟨l,hl,iV⟩:=hH.get j b RL;exact⟨l,lC j l hl,iV.mono (λ_ h=>h) Et lC λhn0=>⟨fJ.block _ (iV.lt hn0).1 (zZ j b l hg hl hn0),(iV.lt hn0).2.2⟩⟩
 ·have sep: ∀j b l,aN (il H (iw ws i)) j=some b->ρ j=some l->l.n≠0->l'.n≠0->l.b≠l'.b:=λj b l hg hl hn0 oK e=>by
   rcases fJ.at_ oK with h|h
   ·exact zZ j b l hg hl hn0 (by rw[e];exact h)
   ·obtain⟨RL,_,_⟩:=Fo j b hg;obtain⟨l3,Zu,iV⟩:=hH.get j b RL;rw[hl]at Zu;cases Zu;have:=(iV.lt hn0).1;omega
  simp only[eM,gh,aN]at kY lG;by_cases ei:d=j
  ·subst ei;rw[e1]at oL;cases oL;rw[aO gn]at lG;have qw:ρ j'=some l2:=by simpa[eJ.set,cq gn]using lV
   exact(sep j' b' l2 lG qw pN o7).symm
  ·rw[aO ei]at kY;have rF:ρ j=some l:=by simpa[eJ.set,cq ei]using oL
   by_cases ej:d=j'
   ·subst ej;rw[e1]at lV;cases lV;exact sep j b l kY rF o7 pN
   ·rw[aO ej]at lG;have qw:ρ j'=some l2:=by simpa[eJ.set,cq ej]using lV
    exact hH.inj j j' b b' l l2 (Fo _ _ kY).1 (Fo _ _ lG).1 gn rF qw o7 pN
 ·rcases fJ.val with⟨cap,rfl,h1,h2⟩|⟨rfl,h1,h2⟩
  ·exact .cf d cap l' e1 h1 h2
  ·exact .j7 d l' e1 h1 h2
theorem JC{ops:Array Oper}{Q:Exit->Act->World->Prop}{ws:ah (Nat×Nat)}{i:Nat}{T:Nat->AV U El}{h:bI U El}{v:AV U El}{nw:bI U El}(hX:bp P X)(vh:ops[i]?=some o)(jb:o.dst=some d)(hw:iw ws i=[])
 (mg:∀(S:Nat->Prop) (ρ:eJ) (w:World) (a:Act),(∀x∈dL ops i,Rel X.E S ρ w (T x) (a.tmps.getD x undef))->Region.wanted o (yielded ops a.tmps)=true) {t:eH U El} (ht:∀x,cC t x=T x)
 (hall:∀k:Out U El->Option (Fin U El),evalOp X o t (iy (jH ops ws i) h) d k=k ⟨v,nw⟩):tC P X ops Q ws i T h v nw:=by
 intro S ρ w a B H K CL hsz hB hG hT hH hs sq hn;have o8:ke ops i=dP o d:=by simp[ke,vh,jb]
 have gr:dL ops i=Oper.looks (ops.toList.map (·.dst)) o:=by simp[dL,vh]
 have XQ:mC X.E S ρ w o t a:=λx hx=>by
  rw[ht x]
  exact hT x (by rw[gr];exact qM hx)
 have iM:∀id b,aN (iy (jH ops ws i) h) id=some b->aN H id=some b:=λid b hg=>by
  rw[nX]at hg;split at hg
  ·rename_i Ec;exact hs id b Ec hg
  ·cases hg
 rw[o8]at sq hn
 classical
 obtain⟨F2,Xb,Xa⟩:=rI (P:=P) (r:=((.any,[]):Fin U El)) (k:=λx=>if x=⟨v,nw⟩then some ((.any,[]):Fin U El)else none) hX (by rw[hall];simp) XQ hH iM sq (hG w (Fr.refl B w))
 have:F2=⟨v,nw⟩:=by
  by_cases e:F2=⟨v,nw⟩
  ·exact e
  ·simp[e]at Xb
 subst this;unfold wpOp;rw[vh]
 simp only[mg S ρ w a hT,if_true]
 refine .inl (Xa K Q λv' w' S' ρ' h1 h2 h3 h4 h5=>?_)
 have rZ:ga ops i=o.dst:=by simp[ga,vh]
 rw[<-rZ]
 refine hn v' w' S' ρ' ⟨h1.fr.mono hB,h1.s1,λb hb=>?_,h5,λc x hr=>h1.rel hr,?_,h2⟩
 ·rcases h1.s2 b hb with h|h
  ·exact .inl h
  ·exact .inr (hB _ h)
 ·rw[hw]
  exact h1.heap hH h3 hB (λid b hg=>sq id (h4 id b hg))
theorem Kr(h:bI U El)(wj:ah Nat)(t:eH U El)(i:Nat):cC (Fw h wj t) i=(cC t i).Nt h wj:=by
 induction t with
 |nil=>rfl
 |cons p t ih=>
  obtain⟨j,v⟩:=p;simp only[Fw,cC]
  cases Nat.beq j i<;>simp[ih]
theorem DG{h:bI U El}{wj:ah Nat}(hr:Ci h wj=true):∀id∈wj,∃u xs,aN h id=some (.rows u xs):=λid hid=>by
 have:=aP.1 hr id hid;split at this
 ·rename_i u xs e;exact⟨u,xs,e⟩
 ·cases this
theorem GC{ops:Array Oper}{Q:Exit->Act->World->Prop}{ws:ah (Nat×Nat)}{i:Nat}{T:Nat->AV U El}{h:bI U El}{v:AV U El}{nw:bI U El}(hX:bp P X)(vh:ops[i]?=some o)(jb:o.dst=some d)
 (mg:∀(S:Nat->Prop) (ρ:eJ) (w:World) (a:Act),(∀x∈dL ops i,Rel X.E S ρ w (T x) (a.tmps.getD x undef))->Region.wanted o (yielded ops a.tmps)=true) {t:eH U El} (ht:∀x,cC t x=T x)
 (oE:Ci (iy (jH ops ws i) h) (iw ws i)=true)
 (hall:∀k:Out U El->Option (Fin U El),evalOp X o (Fw (iy (jH ops ws i) h) (iw ws i) t) (il (iy (jH ops ws i) h) (iw ws i)) d k=k ⟨v,nw⟩):tC P X ops Q ws i T h v nw:=by
 intro S ρ w a B H K CL hsz hB hG hT hH hs sq hn;have o8:ke ops i=dP o d:=by simp[ke,vh,jb]
 have gr:dL ops i=Oper.looks (ops.toList.map (·.dst)) o:=by simp[dL,vh]
 have iM:∀id b,aN (iy (jH ops ws i) h) id=some b->aN H id=some b:=λid b hg=>by
  rw[nX]at hg;split at hg
  ·rename_i Ec;exact hs id b Ec hg
  ·cases hg
 generalize zY:iw ws i=wj at*;generalize hh:iy (jH ops ws i) h=hf at*;have hr:=DG oE;obtain⟨S1,CM⟩:∃S1:Nat->Prop,S1=λb=>S b\/∃id,id∈wj/\∃l,ρ id=some l/\l.n≠0/\b=l.b:=⟨_,rfl⟩
 have QE:∀b,S b->S1 b:=λb hb=>by rw[CM];exact .inl hb
 have hH1:fa X.E S1 ρ w B (il H wj):=by
  refine⟨λid b hg=>?_,λm m' b b' l l' hg qQ=>?_,λb hb=>?_⟩
  ·rw[fp]at hg;split at hg
   ·cases hg
   ·rename_i QO;obtain⟨l,hl,hb⟩:=hH.get id b hg;refine⟨l,hl,hb.mono QE (λ_ _=>rfl) (λ_ _ h=>h) λhn=>⟨rfl,λFk=>?_⟩⟩
    rw[CM]at Fk;rcases Fk with Fk|⟨j6,xU,l',dq,oK,e⟩
    ·exact(hb.lt hn).2.2 Fk
    ·obtain⟨u,xs,qQ⟩:=hr j6 xU;exact hH.inj id j6 _ _ l l' hg (iM _ _ qQ) (λe=>QO (e▸xU)) hl dq hn oK e
  ·rw[fp]at hg qQ;split at hg
   ·cases hg
   ·split at qQ
    ·cases qQ
    ·exact hH.inj m m' b b' l l' hg qQ
  ·rw[CM]at hb;rcases hb with hb|⟨j6,xU,l',dq,oK,rfl⟩
   ·exact hH.lt b hb
   ·obtain⟨u,xs,qQ⟩:=hr j6 xU;obtain⟨l2,qx,vj⟩:=hH.get _ _ (iM _ _ qQ)
    rw[dq]at qx;cases qx;exact(vj.lt oK).1
 have gK:∀b,S1 b->S b\/B.own b:=λb hb=>by
  rw[CM]at hb;rcases hb with hb|⟨j6,xU,l',dq,oK,rfl⟩
  ·exact .inl hb
  ·obtain⟨u,xs,qQ⟩:=hr j6 xU;obtain⟨l2,qx,vj⟩:=hH.get _ _ (iM _ _ qQ)
   rw[dq]at qx;cases qx;exact .inr (vj.lt oK).2.1
 have hrel:∀c x,Rel X.E S ρ w c x->Rel X.E S1 ρ w c x:=λc x hc=>hc.mono QE (λ_ _=>rfl) (λ_ _ h=>h)
 have TQ:∀c x,Rel X.E S ρ w c x->Rel X.E S1 ρ w (c.shr hf wj) x:=λc x hc=>by
  unfold AV.shr;split
  ·rename_i id;cases he:wj.elem id with
   |false=>exact hrel _ _ hc
   |true=>
    simp only[cond_true]
    have hid:id∈wj:=by simpa using he
    split
    ·rename_i u xs hg;obtain⟨l,hl,hb⟩:=hH.get _ _ (iM _ _ hg)
     refine(yy (ρ':=ρ) hX hb hl hc).mono (λb pO=>?_) (λ_ _=>rfl) (λ_ _ h=>h)
     rw[CM]
     rcases pO with pO|⟨hn,rfl⟩
     ·exact .inl pO
     ·exact .inr ⟨id,hid,l,hl,hn,rfl⟩
    ·exact hrel _ _ hc
  ·exact hrel _ _ hc
 have TP:∀c x,Rel X.E S ρ w c x->Rel X.E S1 ρ w (c.Nt hf wj) x:=λc x hc=>by
  unfold AV.Nt;split
  ·cases hc with
   |agg cs vs hl h=>
    refine .agg _ vs (by simp[hl]) λm c' v' hm hv=>?_
    simp only[bo,aJ]at hm;obtain⟨c0,h1,rfl⟩:=hm;exact TQ _ _ (h m c0 v' h1 hv)
  ·exact TQ _ _ hc
 have XQ:mC X.E S1 ρ w o (Fw hf wj t) a:=λx hx=>by
  rw[Kr,ht x]
  exact TP _ _ (hT x (by rw[gr];exact qM hx))
 rw[o8]at sq hn
 classical
 obtain⟨F2,Xb,Xa⟩:=rI (P:=P) (B:=B) (H:=il H wj) (r:=((.any,[]):Fin U El)) (k:=λx=>if x=⟨v,nw⟩then some ((.any,[]):Fin U El)else none) hX (by rw[hall];simp) XQ hH1 (λid b hg=>by
  rw[fp]at hg⊢;split at hg
  ·cases hg
  ·rename_i QO;rw[if_neg QO];exact iM _ _ hg) sq (hG w (Fr.refl B w))
 have:F2=⟨v,nw⟩:=by
  by_cases e:F2=⟨v,nw⟩
  ·exact e
  ·simp[e]at Xb
 subst this;unfold wpOp;rw[vh]
 simp only[mg S ρ w a hT,if_true]
 refine .inl (Xa K Q λv' w' S' ρ' h1 h2 h3 h4 h5=>?_)
 have rZ:ga ops i=o.dst:=by simp[ga,vh]
 rw[<-rZ]
 refine hn v' w' S' ρ' ⟨h1.fr.mono hB,λb hb=>h1.s1 b (QE b hb),λb hb=>?_,h5,λc x hr=>h1.rel (hrel c x hr),?_,h2⟩
 ·rcases h1.s2 b hb with h|h
  ·exact gK b h
  ·exact .inr (hB _ h)
 ·exact h1.heap hH1 h3 hB (λid b hg=>sq id (h4 id b hg))
theorem me(σ:Nat->Nat)(cs:ah (AV U El)):AV.nG.sb σ cs=cs.map (AV.nG σ):=by
 induction cs with
 |nil=>rfl
 |cons c cs ih=>simp[AV.nG.sb,ih]
theorem ov{ids:ah Nat}{cs:ah (AV U El)}(h:AV.within.pU ids cs=true):∀c∈cs,c.within ids=true:=by
 induction cs with
 |nil=>intro c hc;cases hc
 |cons d cs ih=>
  simp only[AV.within.pU,aj]at h;intro c hc;cases hc with
  |head=>exact h.1
  |tail _ hc=>exact ih h.2 c hc
theorem Rel.nG{E:fZ U El}{c:AV U El}{v:Value}(hg:oJ P E){σ:Nat->Nat}{ids:ah Nat}(hr:Rel E S ρ w c v)(hw:c.within ids=true)(AM:∀j∈ids,∀l,ρ j=some l->ρ' (σ j)=some l):Rel E S ρ' w (c.nG σ) v:=by
 have hm:∀{j:Nat} {l:Loc},ids.elem j=true->ρ j=some l->ρ' (σ j)=some l:=λh e=>AM _ (by simpa using h) _ e
 have ix:∀{cs:ah (AV U El)} {i:Nat} {c':AV U El},(cs.map (AV.nG σ))[i]?=some c'->∃c,cs[i]?=some c/\c.nG σ=c':=λh=>by simpa[bo,aJ]using h
 induction hr with
 |any v=>exact .any v
 |bool b=>exact .bool b
 |int k n=>exact .int k n
 |str s=>exact .str s
 |j5=>exact .j5
 |cL=>exact .cL
 |lN=>exact .lN
 |oT=>exact .oT
 |oz=>exact .oz
 |agg cs vs hl h ih=>
  show Rel E S ρ' w (.agg (AV.nG.sb σ cs)) _;rw[me]
  refine .agg _ vs (by simp[hl]) λi c' v hc hv=>?_
  obtain⟨c,h1,rfl⟩:=ix hc;exact ih i c v h1 hv (ov (by simpa[AV.within]using hw) c (aD h1))
 |bP cs vs hl h ih=>
  show Rel E S ρ' w (.bP (AV.nG.sb σ cs)) _;rw[me]
  refine .bP _ vs (by simp[hl]) λi c' v hc hv=>?_
  obtain⟨c,h1,rfl⟩:=ix hc;exact ih i c v h1 hv (ov (by simpa[AV.within]using hw) c (aD h1))
 |jy u ao cap=>exact .jy u ao cap
 |au u xs b off cap val hb hc hcell h ih=>exact .au u xs b off cap val hb hc hcell λi x j c hi hj=>(h i x j c hi hj).ew hg (hg.cell u x c (aD hj))
 |cf j cap l hl h1 h2=>exact .cf _ cap l (hm (by simpa[AV.within]using hw) hl) h1 h2
 |j7 j l hl h1 h2=>exact .j7 _ l (hm (by simpa[AV.within]using hw) hl) h1 h2
 |own j lo len cap l hl h1 h2 h3=>exact .own _ lo len cap l (hm (by simpa[AV.within]using hw) hl) h1 h2 h3
 |nH j lo ao cap=>exact .nH _ lo ao cap
 |ptr j off l hl=>exact .ptr _ off l (hm (by simpa[AV.within]using hw) hl)
 |row j i off l hl=>exact .row _ i off l (hm (by simpa[AV.within]using hw) hl)
 |mp j l hl=>exact .mp _ l (hm (by simpa[AV.within]using hw) hl)
 |sr u v es b eQ clock hb hh hn hf hk hv Qt Qs=>exact .sr u v es b eQ clock hb hh hn hf (λi e p j c x h1 h2 h3 h4=>(hk i e p j c x h1 h2 h3 h4).ew hg (hg.cell u p.1 c (aD h3))) (λi e p j c x h1 h2 h3 h4=>(hv i e p j c x h1 h2 h3 h4).ew hg (hg.cell v p.2 c (aD h3)))
 |pel u xs i off b o cap h hi ih=>
  refine .pel u xs i off b o cap ?_ hi;exact ih rfl
 |pcs cs off b o val hb hcell h ih=>
  show Rel E S ρ' w (.pcs (AV.nG.sb σ cs) off) _;rw[me]
  refine .pcs _ off b o val (λhn=>hb (by rintro rfl;exact hn rfl)) (λj c' hj=>?_) λj c' hj=>?_
  ·obtain⟨c,h1,_⟩:=ix hj;exact hcell j c h1
  ·obtain⟨c,h1,rfl⟩:=ix hj;exact ih j c h1 (ov (by simpa[AV.within]using hw) c (aD h1))
 |fn f fs cs vf vc sg tR hf hc Qu Qv=>
  show Rel E S ρ' w (.fn f (AV.nG.sb σ fs) (AV.nG.sb σ cs)) _;rw[me,me]
  simp only[AV.within,aj]at hw;refine .fn f _ _ vf vc (by simp[sg]) (by simp[tR]) (λi c' v hc hv=>?_) (λi c' v hc hv=>?_)
  ·obtain⟨c,h1,rfl⟩:=ix hc;exact Qu i c v h1 hv (ov hw.1 c (aD h1))
  ·obtain⟨c,h1,rfl⟩:=ix hc;exact Qv i c v h1 hv (ov hw.2 c (aD h1))
 |err t v=>exact .err t v
theorem dt.nG{E:fZ U El}{B B':Bd}{l:Loc}{b:qm U El}{σ:Nat->Nat}{ids:ah Nat}{tg:Nat}(hg:oJ P E)(h:dt E S ρ w B l b)(hw:b.within ids=true)(AM:∀j∈ids,∀l,ρ j=some l->ρ' (σ j)=some l)
 (gK:l.n≠0->B'.own l.b) (Zf:tg=0\/B'.jZ tg=some l):dt E S ρ' w B' l (b.nG σ tg):=by
 cases b with
 |rows u xs=>
  obtain⟨h1,h2,h3,h4⟩:=h;refine⟨h1,h2,h3,λhn=>?_⟩
  obtain⟨h5,h6,c,hh,h7,h8⟩:=h4 hn;exact⟨gK hn,h6,c,hh,h7,λi x j a hi hj=>by obtain⟨v,hv,hr⟩:=h8 i x j a hi hj;exact⟨v,hv,hr.ew hg (hg.cell u x a (aD hj))⟩⟩
 |pZ t u xs=>
  obtain⟨_,h1,h2,h3,h4⟩:=h;have hr:dt E S ρ' w B' l (.rows u xs):=by
   refine⟨h1,h2,h3,λhn=>?_⟩
   obtain⟨h5,h6,c,hh,h7,h8⟩:=h4 hn;exact⟨gK hn,h6,c,hh,h7,λi x j a hi hj=>by obtain⟨v,hv,hr⟩:=h8 i x j a hi hj;exact⟨v,hv,hr.ew hg (hg.cell u x a (aD hj))⟩⟩
  show dt E S ρ' w B' l (bif Nat.beq tg 0 then .rows u xs else .pZ tg u xs)
  cases Nat.beq tg 0 with
  |true=>exact hr
  |false=>exact⟨Zf,hr⟩
 |map u v es=>
  obtain⟨h1,h4,h5,c0,c1,hh,h6,h7⟩:=h;exact⟨h1,gK ab,h5,c0,c1,hh,h6,λi e p hi hj=>⟨(h7 i e p hi hj).1.ew hg,(h7 i e p hi hj).2.ew hg⟩⟩
 |jC u ks cs=>
  obtain⟨h1,h4,h5,c0,c1,hh,h6,h7,h8⟩:=h;refine⟨h1,gK ab,h5,c0,c1,hh,h6,by simpa using h7,λi e y c hi hj hk=>?_⟩
  simp only[bo,aJ]at hk;obtain⟨a0,xX,rfl⟩:=hk;exact⟨(h8 i e y a0 hi hj xX).1.ew hg,(h8 i e y a0 hi hj xX).2.nG hg (aP.1 hw a0 (aD xX)) AM⟩
 |box t cs=>
  obtain⟨h0,h1,h2⟩:=h;refine⟨Zf,by simpa using h1,λhn=>?_⟩
  obtain⟨h5,h6,c,e,hh,h7,h8⟩:=h2 hn;refine⟨gK hn,h6,c,e,hh,h7,λj a hj=>?_⟩
  simp only[bo,aJ]at hj;obtain⟨a0,xX,rfl⟩:=hj;obtain⟨v,hv,hr⟩:=h8 j a0 xX;exact⟨v,hv,hr.nG hg (aP.1 hw a0 (aD xX)) AM⟩
 |uk T j=>
  obtain⟨h1,h4,h5,c0,c1,hh,h6,h7,h8⟩:=h;exact⟨h1,gK ab,h5,c0,c1,hh,h6,h7,h8.nG hg (ids:=ids) (by simpa[AV.within,qm.within]using hw) AM⟩
theorem vq:∀(ids:ah Nat) (n j:Nat),j∈ids->∃i,ids[i]?=some j/\oQ ids n j=n+i:=by
 intro ids;induction ids with
 |nil=>intro n j h;cases h
 |cons i ids ih=>
  intro n j h;simp only[oQ]
  by_cases e:i=j
  ·subst e;rw[aG];exact⟨0,rfl,rfl⟩
  ·rw[aO e]
   obtain⟨m,h1,h2⟩:=ih (n+1) j ((bN.1 h).resolve_left (cq e))
   exact⟨m+1,by simpa using h1,by simp only[cond];omega⟩
theorem Ae:∀(l:ah (Nat×Nat)) (x j:Nat),tc l x=some j->(x,j)∈l:=by
 intro l;induction l with
 |nil=>intro x j h;cases h
 |cons p l ih=>
  obtain⟨id,m⟩:=p;intro x j h;simp only[tc]at h;by_cases e:id=x
  ·subst e;rw[aG]at h;cases h;simp
  ·rw[aO e]at h;exact dE _ (ih x j h)
theorem tU:∀(l:ah (Nat×Nat)) (x j:Nat),(l.map (·.1)).Nodup->(x,j)∈l->tc l x=some j:=by
 intro l;induction l with
 |nil=>intro x j _ h;cases h
 |cons p l ih=>
  obtain⟨id,m⟩:=p;intro x j hn h;simp only[dx,List.nodup_cons]at hn;simp only[tc]
  by_cases e:id=x
  ·subst e;rw[aG]
   rcases bN.1 h with h|h
   ·cases h;rfl
   ·exact absurd (eT.2 ⟨_,h,rfl⟩) hn.1
  ·rw[aO e]
   rcases bN.1 h with h|h
   ·cases h;exact absurd rfl e
   ·exact ih x j hn.2 h
theorem EL:∀(l:ah (Nat×Nat)) (j:Nat),j∈l.map (·.2)->(x_ l j,j)∈l:=by
 intro l;induction l with
 |nil=>intro j h;cases h
 |cons p l ih=>
  obtain⟨id,m⟩:=p;intro j h;simp only[x_]
  by_cases e:m=j
  ·subst e;rw[aG];simp
  ·rw[aO e]
   exact dE _ (ih j ((bN.1 h).resolve_left (cq e)))
theorem nZ{h:bI U El}{all:ah Nat}: ∀(ids:ah Nat) (n:Nat) (hs:bI U El),handed h all ids n=some hs-> ∀m b,aN hs m=some b-> ∃i id b0,ids[i]?=some id/\m=n+i/\aN h id=some b0/\b0.within all=true/\b=b0.nG (oQ all dD) m:=by
 intro ids;induction ids with
 |nil=>intro n hs he m b hg;cases he;cases hg
 |cons id ids ih=>
  intro n hs he m b hg;simp only[handed]at he;split at he
  ·rename_i b0 xW;split at he
   ·rename_i iM QT;obtain⟨hw,he⟩:=aQ he;cases he;simp only[aN]at hg;by_cases e:n=m
    ·subst e;rw[aG]at hg;cases hg;exact⟨0,id,b0,rfl,rfl,xW,hw,rfl⟩
    ·rw[aO e]at hg;obtain⟨i,j6,U9,h1,h2,h3,h4,h5⟩:=ih (n+1) iM QT m b hg;exact⟨i+1,j6,U9,by simpa using h1,ab,h3,h4,h5⟩
   ·cases he
  ·cases he
theorem nY{h:bI U El}{all:ah Nat}: ∀(ids:ah Nat) (n:Nat) (hs:bI U El),handed h all ids n=some hs-> ∀id∈ids,∃b,aN h id=some b:=by
 intro ids;induction ids with
 |nil=>intro n hs he id hi;cases hi
 |cons id ids ih=>
  intro n hs he j6 hi;simp only[handed]at he;split at he
  ·rename_i b0 xW;split at he
   ·rename_i iM QT;rcases bN.1 hi with rfl|hi
    ·exact⟨b0,xW⟩
    ·exact ih _ iM QT j6 hi
   ·cases he
  ·cases he
theorem wZ{h hc:bI U El}{pins:ah Nat}{all:ah (Nat×Nat)}: ∀(l:ah (Nat×Nat)) (id:Nat) (b:qm U El),aN (py h hc pins all l) id=some b-> ∃j b0,(id,j)∈l/\aN hc j=some b0/\b=b0.nG (x_ all) (bif pins.elem id then(match aN h id with|some b0=>b0.tag|none=>0)else 0):=by
 intro l;induction l with
 |nil=>intro id b hg;cases hg
 |cons p l ih=>
  obtain⟨i,j⟩:=p;intro id b hg;simp only[py]at hg;split at hg
  ·rename_i b0 xW;simp only[aN]at hg;by_cases e:i=id
   ·subst e;rw[aG]at hg;cases hg;exact⟨j,b0,ae,xW,rfl⟩
   ·rw[aO e]at hg;obtain⟨j',b',h1,h2,h3⟩:=ih id b hg;exact⟨j',b',dE _ h1,h2,h3⟩
  ·obtain⟨j',b',h1,h2,h3⟩:=ih id b hg;exact⟨j',b',dE _ h1,h2,h3⟩
theorem GD{ops:Array Oper}{Q:Exit->Act->World->Prop}{ws:ah (Nat×Nat)}{i:Nat}{T:Nat->AV U El}{h:bI U El}{f:Operand}{aaa:Array Operand}{ts:Array TypeId}{ids pins:ah Nat}{outs:ah (Nat×Nat)}{hs hc:bI U El}{v:AV U El}{g:FuncId}{first mO:ah (AV U El)}
 (hX:bp P X) (vh:ops[i]?=some o) (ho:o.op=.call ⟨.value f,aaa,ts⟩) (jb:o.dst=some d) (hw:iw ws i=ids)
 (mg:∀(S:Nat->Prop) (ρ:eJ) (w:World) (a:Act),(∀x∈dL ops i,Rel X.E S ρ w (T x) (a.tmps.getD x undef))->Region.wanted o (yielded ops a.tmps)=true) {t:eH U El} (ht:∀x,cC t x=T x)
 (hf:bm t f=.fn g first mO) (kH:∀aaa w,(callFunc g aaa).run P w=.ok (.enter g aaa) w) (Uv:(first++aaa.toList.map (bm t)++mO).all (AV.within ids)=true) (hh:handed (iy (jH ops ws i) h) ids ids dD=some hs)
 (hm:lT P X.E g ((first++aaa.toList.map (bm t)++mO).map (AV.nG (oQ ids dD))) hs v hc) (hok:Qe hc ids outs pins v=true) (Jt:(outs.all λp=>pins.elem p.1||(jM d).elem p.1)=true):
 tC P X ops Q ws i T h (v.nG (x_ outs)) (py (iy (jH ops ws i) h) hc pins outs outs):=by
 intro S ρ w a B H K CL hsz hB hG hT hH hs0 sq hn;have gr:dL ops i=Oper.looks (ops.toList.map (·.dst)) o:=by simp[dL,vh]
 have o8:ke ops i=jM d:=by simp[ke,vh,dP,ho,jb]
 have rZ:ga ops i=some d:=by simp[ga,vh,jb]
 have iM:∀id b,aN (iy (jH ops ws i) h) id=some b->aN H id=some b:=λid b hg=>by
  rw[nX]at hg;split at hg
  ·rename_i Ec;exact hs0 id b Ec hg
  ·cases hg
 have LC:∀y∈o.op.operands,Rel X.E S ρ w (bm t y) (a.eval y):=λy hy=>Rel.bm λz e=>by
  subst e;rw[ht]
  exact hT z (by rw[gr];exact qM hy)
 have QX:=LC f (by simp[ho,Op.operands,Call.operands])
 rw[hf]at QX;generalize ε:a.eval f=qf at QX;cases QX with
 |fn _ _ _ vf vc sg tR TR CI=>
 have Gm:pb X.E S ρ w (first++aaa.toList.map (bm t)++mO) (vf++aaa.map a.eval++vc):=by
  refine⟨by simp[sg,tR],λi c v hc hv=>?_⟩
  have eC:(vf.toList++aaa.toList.map a.eval++vc.toList)[i]?=some v:=by
   rw[<-bO]at hv;simpa using hv
  rw[lg]at hc eC;split at hc
  ·rename_i h1;rw[if_pos (by simpa[sg]using h1)]at eC;rw[lg]at hc eC;split at hc
   ·rename_i h2;rw[if_pos (by simpa[sg]using h2)]at eC;exact TR i c v hc (by simpa using eC)
   ·rename_i h2;rw[if_neg (by simpa[sg]using h2)]at eC;simp only[bo,aJ,cW,sg]at hc eC;obtain⟨x,hx,rfl⟩:=hc;obtain⟨y,hy,rfl⟩:=eC;rw[hx]at hy;cases hy;exact LC x (by simp only[ho,Op.operands,Call.operands];have:=aD hx;simp;exact .inr (by simpa using this))
  ·rename_i h1;rw[if_neg (by simpa[sg]using h1)]at eC;simp only[aF,gk,cW,sg]at hc eC;exact CI _ c v hc (by simpa using eC)
 have de:(execOp a.eval o).run P w=.ok (.enter g (vf++aaa.map a.eval++vc)) w:=by
  simp[execOp,ho,resolve,Deferred.ofValue,ε,invoke,kH]
 simp only[Qe,aj,decide_eq_true_eq]at hok;obtain⟨Vs,o7,pN,WC,XF,vU⟩:=hok;obtain⟨Dh,CE⟩:∃Dh:eJ,Dh=λm=>if dD<=m then(ids[m-dD]?).bind ρ else none:=⟨_,rfl⟩
 have Oa:∀j∈ids,Dh (oQ ids dD j)=ρ j:=λj hj=>by
  obtain⟨i,h1,h2⟩:=vq ids dD j hj;rw[CE,h2]
  simp[h1]
 have nV:∀id∈ids,∃b l,aN H id=some b/\ρ id=some l/\dt X.E S ρ w B l b:=λid hid=>by
  obtain⟨b,hb⟩:=nY _ _ _ hh id hid;obtain⟨l,hl,iV⟩:=hH.get id b (iM _ _ hb)
  exact⟨b,l,iM _ _ hb,hl,iV⟩
 obtain⟨Bc,xY⟩:∃Bc:Bd,Bc=⟨λk=>w.heap.size<=k\/∃id∈ids,∃l,ρ id=some l/\l.n≠0/\l.b=k,Dh,[]⟩:=⟨_,rfl⟩
 have gK:∀k,Bc.own k->B.own k:=λk xb=>by
  rw[xY]at xb;rcases xb with h|⟨id,hid,l,hl,hn,rfl⟩
  ·exact hB k h
  ·obtain⟨b,l',_,dq,iV⟩:=nV id hid;rw[hl]at dq;cases dq;exact(iV.lt hn).2.1
 have LA:∀k,Bc.own k->¬S k:=λk xb hS=>by
  rw[xY]at xb;rcases xb with h|⟨id,hid,l,hl,hn,rfl⟩
  ·have:=hH.lt k hS;omega
  ·obtain⟨b,l',_,dq,iV⟩:=nV id hid;rw[hl]at dq;cases dq;exact(iV.lt hn).2.2 hS
 have XU:fa X.E S Dh w Bc hs:=by
  refine⟨λm b hg=>?_,λm m' b b' l l' hg qQ gn hl dq hn oK=>?_,hH.lt⟩
  ·obtain⟨i,id,b0,h1,rfl,h3,h4,rfl⟩:=nZ _ _ _ hh m b hg;obtain⟨l,hl,iV⟩:=hH.get id b0 (iM _ _ h3)
   have nV:id∈ids:=aD h1;have Lp:Dh (dD+i)=some l:=by rw[CE];simp[h1,hl]
   exact⟨l,Lp,iV.nG hX.u h4 (λj hj l' e=>by rw[Oa j hj];exact e) (λhn=>by rw[xY];exact .inr ⟨id,nV,l,hl,hn,rfl⟩) (.inr (by rw[xY];exact Lp))⟩
  ·obtain⟨i,id,b0,h1,rfl,h3,_⟩:=nZ _ _ _ hh m b hg;obtain⟨i',j6,U9,h1',rfl,XY,_⟩:=nZ _ _ _ hh m' b' qQ;have e1:ρ id=some l:=by rw[CE]at hl;simpa[h1]using hl
   have e2:ρ j6=some l':=by rw[CE]at dq;simpa[h1']using dq
   refine hH.inj id j6 b0 U9 l l' (iM _ _ h3) (iM _ _ XY) (λe=>gn ?_) e1 e2 hn oK;subst e;obtain⟨q1,q2⟩:=ak.1 h1;have:=(mS q1 Vs).1 (h1.trans h1'.symm)
   rw[this]
 have WS:pb X.E S Dh w ((first++aaa.toList.map (bm t)++mO).map (AV.nG (oQ ids dD))) (vf++aaa.map a.eval++vc):=by
  refine⟨by simpa using Gm.1,λi c v hc hv=>?_⟩
  simp only[bo,aJ]at hc;obtain⟨c0,hc0,rfl⟩:=hc;exact(Gm.2 i c0 v hc0 hv).nG hX.u (aP.1 Uv c0 (aD hc0)) λj hj l e=>by rw[Oa j hj];exact e
 unfold wpOp;rw[vh]
 simp only[mg S ρ w a hT,if_true]
 refine .inl ?_;unfold Oper.wp;rw[de]
 show Calls P g _ w _;refine(hm Bc S Dh w _ (λk xb=>by rw[xY];exact .inl xb) (λw' hf=>hG w' (hf.mono gK)) XU WS).mono ?_;rintro e w' ⟨v',S',ρ',rfl,QW,hs1,hs2,Fo,eC⟩
 show K (a.put o.dst v') w';obtain⟨su,Gl⟩:∃su:eJ,su=λid=>match tc outs id with|some j=>ρ' j|none=>ρ id:=⟨_,rfl⟩
 have xG:∀id∈pins,id∈ids/\tc outs id=some (oQ ids dD id)/\∃b,aN hc (oQ ids dD id)=some b/\b.tag=oQ ids dD id:=λid hid=>by
  have:=aP.1 vU id hid;simp only[aj,jO,decide_eq_true_eq]at this;obtain⟨h1,h2⟩:=this;split at h2
  ·rename_i j hj;simp only[aj]at h2;obtain⟨h3,h4⟩:=h2;obtain rfl:=al h3;split at h4
   ·rename_i t cs hb;exact⟨h1,hj,_,hb,al h4⟩
   ·rename_i t u xs hb;exact⟨h1,hj,_,hb,al h4⟩
   ·cases h4
  ·cases h2
 have QB:∀id∈ids,oQ ids dD id≠0:=λid hid=>by
  obtain⟨i,_,h2⟩:=vq ids dD id hid;rw[h2];unfold dD;omega
 have HZ:∀id∈pins,ρ' (oQ ids dD id)=ρ id:=λid hid=>by
  obtain⟨h1,h2,b,h3,ht⟩:=xG id hid;obtain⟨l',dq,iV⟩:=Fo.get _ _ h3;have iV:=iV.tagged;rw[ht]at iV;rcases iV with h|h
  ·exact absurd h (QB id h1)
  ·rw[xY]at h;rw[dq,<-Oa id h1]
   exact h.symm
 have TU:∀id j,tc outs id=some j->id∈pins\/id∈jM d:=λid j hj=>by
  have:=aP.1 Jt _ (Ae _ _ _ hj)
  simpa using this
 have TG:∀id,id∉jM d->su id=ρ id:=λid hid=>by
  rw[Gl]
  simp only;split
  ·rename_i j hj;have hp:=(TU id j hj).resolve_right hid;obtain⟨_,h2,_⟩:=xG id hp;rw[hj]at h2;cases h2;exact HZ id hp
  ·rfl
 have lC:∀id l,ρ id=some l->su id=some l:=λid l h=>by
  by_cases hc:id∈jM d
  ·rw[sq id (by rw[o8];exact hc)]at h;cases h
  ·rw[TG id hc];exact h
 have MW:∀j∈outs.map (·.2),∀l,ρ' j=some l->su (x_ outs j)=some l:=λj hj l hl=>by
  rw[Gl]
  simp only[tU outs _ _ o7 (EL outs j hj)]
  exact hl
 have gT:∀b,S b->w'.heap[b]?=w.heap[b]?:=λb hb=>QW.block b (hH.lt b hb) λh=>LA b h hb
 have new:∀id b,aN (py (iy (jH ops ws i) h) hc pins outs outs) id=some b->∃j b0 l,(id,j)∈outs/\aN hc j=some b0/\ρ' j=some l/\su id=some l/\dt X.E S' ρ' w' Bc l b0/\dt X.E S' su w' B l b:=λid b hg=>by
  obtain⟨j,b0,h1,h2,rfl⟩:=wZ outs id b hg;obtain⟨l,hl,iV⟩:=Fo.get j b0 h2;have hf:=tU outs id j o7 h1;have qx:su id=some l:=by rw[Gl];simp only[hf];exact hl
  have hw:b0.within (outs.map (·.2))=true:=by
   have:=aP.1 XF _ h1;simp only[h2]at this;exact this
  refine⟨j,b0,l,h1,h2,hl,qx,iV,iV.nG hX.u hw MW (λhn=>gK _ (iV.lt hn).2.1) ?_⟩
  cases hp:pins.elem id with
  |false=>exact .inl rfl
  |true=>
   simp only[cond]
   have Oe:id∈pins:=by simpa using hp
   obtain⟨g1,g2,_⟩:=xG id Oe;rw[hf]at g2;cases g2;obtain⟨b1,B0⟩:=nY _ _ _ hh id g1;obtain⟨l1,Db,Q4⟩:=hH.get id b1 (iM _ _ B0)
   have:=HZ id Oe;rw[hl,Db]at this;cases this;rw[B0]
   exact Q4.tagged
 have vM:∀id b l,aN (il H ids) id=some b->ρ id=some l->l.n≠0->l.b<w.heap.size/\¬Bc.own l.b/\¬S' l.b:=λid b l hg hl hn=>by
  rw[fp]at hg;split at hg
  ·cases hg
  ·rename_i Gp;obtain⟨l',dq,iV⟩:=hH.get id b hg;rw[hl]at dq;cases dq;have hlt:=iV.lt hn;have Fj:¬Bc.own l.b:=λho=>by
    rw[xY]at ho;rcases ho with h|⟨j6,xU,l2,qx,pN,e⟩
    ·have:w.heap.size<=l.b:=h;omega
    ·obtain⟨b2,_,vj,_,_⟩:=nV j6 xU;exact hH.inj id j6 b b2 l l2 hg vj (by rintro rfl;exact Gp xU) hl qx hn pN e.symm
   exact⟨hlt.1,Fj,λhs=>by rcases hs2 _ hs with h|h;exact hlt.2.2 h;exact Fj h⟩
 rw[show o.dst=ga ops i from jb.trans rZ.symm]
 refine hn v' w' S' su ⟨QW.mono gK,hs1,λb hb=>?_,λid hid=>TG id (by rw[<-o8];exact hid),λc x hr=>hr.mono hs1 gT lC,?_,eC.nG hX.u WC MW⟩
 ·rcases hs2 b hb with h|h
  ·exact .inl h
  ·exact .inr (gK b h)
 ·rw[hw]
  refine⟨λid b hg=>?_,λm1 m2 b b' l l' kY lG gn oL lV hn oK=>?_,Fo.lt⟩
  ·rw[fF]at hg;split at hg
   ·rename_i b' pO;cases hg;obtain⟨_,_,l,_,_,_,h1,_,h2⟩:=new id b pO;exact⟨l,h1,h2⟩
   ·have Dd:=hg;rw[fp]at Dd;split at Dd
    ·cases Dd
    ·obtain⟨l,hl,iV⟩:=hH.get id b Dd;refine⟨l,lC id l hl,iV.mono hs1 gT lC λhn=>?_⟩
     obtain⟨c1,c2,c3⟩:=vM id b l hg hl hn;exact⟨QW.block _ c1 c2,c3⟩
  ·have kind: ∀id b l,aN (py (iy (jH ops ws i) h) hc pins outs outs++il H ids) id=some b->su id=some l->l.n≠0->(∃j b0,(id,j)∈outs/\aN hc j=some b0/\ρ' j=some l/\Bc.own l.b)\/(∃b0,aN H id=some b0/\ρ id=some l/\ ¬Bc.own l.b):=λid b l hg hl hn=>by
    rw[fF]at hg;split at hg
    ·rename_i b' pO;obtain⟨j,b0,l2,h1,h2,h3,h4,h5,_⟩:=new id b' pO;rw[hl]at h4;cases h4;exact .inl ⟨j,b0,h1,h2,h3,(h5.lt hn).2.1⟩
    ·have Dd:=hg;rw[fp]at Dd;split at Dd
     ·cases Dd
     ·obtain⟨l2,qx,_⟩:=hH.get id b Dd;have:=lC id l2 qx;rw[hl]at this;cases this;exact .inr ⟨b,Dd,qx,(vM id b l hg qx hn).2.1⟩
   rcases kind m1 b l kY oL hn with⟨j1,b1,p1,p2,p3,p4⟩|⟨b1,p1,p2,p3⟩<;>rcases kind m2 b' l' lG lV oK with⟨j2,b2,q1,q2,q3,q4⟩|⟨b2,q1,q2,q3⟩
   ·refine Fo.inj j1 j2 b1 b2 l l' p2 q2 (λe=>gn ?_) p3 q3 hn oK;subst e
    have QH:∀(l:ah (Nat×Nat)) (x y z:Nat),(l.map (·.2)).Nodup->(x,z)∈l->(y,z)∈l->x=y:=by
     intro l;induction l with
     |nil=>intro x y z _ h;cases h
     |cons p l ih=>
      intro x y z Ei h1 h2;simp only[dx,List.nodup_cons]at Ei;rcases bN.1 h1 with e1|h1<;>rcases bN.1 h2 with e2|h2
      ·rw[<-e1]at e2;exact(Prod.mk.inj e2).1.symm
      ·exact absurd (eT.2 ⟨_,h2,by rw[<-e1]⟩) Ei.1
      ·exact absurd (eT.2 ⟨_,h1,by rw[<-e2]⟩) Ei.1
      ·exact ih x y z Ei.2 h1 h2
    exact QH outs m1 m2 j1 pN p1 q1
   ·intro e;exact q3 (e▸p4)
   ·intro e;exact p3 (e▸q4)
   ·exact hH.inj m1 m2 b1 b2 l l' p1 q1 gn p2 q2 hn oK
theorem Bp{k:St U El->Option (Fin U El)}{ops:Array Oper}{Q:Exit->Act->World->Prop}{ws:ah (Nat×Nat)}(hX:bp P X):
 ∀(os:ah Oper) (j:Nat) (t:eH U El) (h:bI U El),ops.toList.drop j=os->j+os.length=ops.size->jK X (ops.toList.map (·.dst)) (λi=>jH ops ws i) ws os j t h k=some r->
 ∃v nw T Hs bx,Trace P X ops Q ws j t h k r v nw T Hs bx:=by
 intro os;induction os with
 |nil=>
  intro j t h hd hj hv;simp only[jK]at hv;simp only[eW,gg]at hj;subst hj;exact⟨λ_=>.any,λ_=>[],λ_=>cC t,λ_=>h,_,λ_=>rfl,rfl,λi h1 h2=>ab,λi h1 h2=>ab,λi h1 h2=>ab,λi h1 h2=>ab,λi h1 h2=>ab,λ_=>rfl,rfl,hv⟩
 |cons o os ih=>
  intro j t h hd hj hv;have ho:ops[j]?=some o:=by
   have:(ops.toList.drop j)[0]?=some o:=by rw[hd];rfl
   rw[cg]at this;simpa using this
  have rZ:ops.toList.drop (j+1)=os:=by rw[<-List.drop_drop,hd];rfl
  have xI:j+1+os.length=ops.size:=by simp only[cI]at hj;omega
  have jb:ga ops j=o.dst:=by simp[ga,ho]
  have o8:ke ops j=dP o (o.dst.getD 999):=by simp[ke,ho]
  have LI:dL ops j=Oper.looks (ops.toList.map (·.dst)) o:=by simp[dL,ho]
  have join:∀(t1:eH U El) (h1:bI U El) (av:AV U El) (P_:bI U El),(∀x,cC t1 x=if ga ops j=some x then av else cC t x)->(∀id,(id∈iw ws j\/aN P_ id≠none)->aN h1 id=aN P_ id)->(∀id,¬(id∈iw ws j\/aN P_ id≠none)->aN h1 id=aN h id)->
   (∀id,aN P_ id≠none->id∈ke ops j\/id∈iw ws j)->tC P X ops Q ws j (cC t) h av P_->
   jK X (ops.toList.map (·.dst)) (λi=>jH ops ws i) ws os (j+1) t1 h1 k=some r->∃v nw T Hs bx,Trace P X ops Q ws j t h k r v nw T Hs bx:=by
   intro t1 h1 av P_ Jn Vx hh2 Ua Ul eC;obtain⟨v,nw,T,Hs,bx,qe⟩:=ih (j+1) _ _ rZ xI eC;refine⟨λi=>if i=j then av else v i,λi=>if i=j then P_ else nw i,λi=>if i=j then cC t else T i,λi=>if i=j then h else Hs i,bx,?_⟩
   refine⟨λx=>ae,ae,λi g1 g2 x=>?_,λi g1 g2 id=>?_,λi g1 g2 id=>?_,λi g1 g2 id=>?_,λi g1 g2=>?_,λx=>?_,?_,qe.UO⟩
   ·by_cases e1:i=j
    ·subst e1;rw[if_neg ab]
     simp only[if_true]
     rw[qe.T0]
     exact Jn x
    ·rw[if_neg ab,if_neg e1,if_neg e1]
     exact qe.stepT i ab g2 x
   ·by_cases e1:i=j
    ·subst e1;have e2:¬(i+1=i):=ab
     simp only[if_neg e2,if_true]
     rw[qe.H0]
     exact Vx id
    ·have e2: ¬(i+1=j):=ab
     simp only[if_neg e1,if_neg e2]
     exact qe.KA i ab g2 id
   ·by_cases e1:i=j
    ·subst e1;have e2:¬(i+1=i):=ab
     simp only[if_neg e2,if_true]
     rw[qe.H0]
     exact hh2 id
    ·have e2: ¬(i+1=j):=ab
     simp only[if_neg e1,if_neg e2]
     exact qe.Kz i ab g2 id
   ·by_cases e1:i=j
    ·subst e1;simp only[if_true];exact Ua id
    ·simp only[if_neg e1];exact qe.keys i ab g2 id
   ·by_cases e1:i=j
    ·subst e1;simp only[if_true];exact Ul
    ·simp only[if_neg e1];exact qe.fact i ab g2
   ·rw[if_neg (by simp only[cI]at hj;omega)];exact qe.UM x
   ·rw[if_neg (by simp only[cI]at hj;omega)];exact qe.UP
  simp only[jK]at hv;have xa:∀(t1:eH U El) (e:Nat) (av:AV U El),o.dst=some e->(∀x,cC t1 x=cC t x)->∀x,cC ((e,av)::t1) x=if ga ops j=some x then av else cC t x:=λt1 e av he Jn x=>by
   rw[jb,he]
   simp only[cC,bX]
   by_cases e2:e=x
   ·rw[if_pos e2,e2,aG];rfl
   ·rw[if_neg e2,aO e2];exact Jn x
  have EK: ∀(t1:eH U El),(∀x,cC t1 x=cC t x)->(∀(S:Nat->Prop) (ρ:eJ) (w:World) (a:Act),(∀x∈dL ops j,Rel X.E S ρ w (cC t x) (a.tmps.getD x undef))->Region.wanted o (yielded ops a.tmps)=true)->
   jQ o t1 (λt'=>CS X o (jH ops ws j) (iw ws j) t' h λt2 h2=>jK X (ops.toList.map (·.dst)) (λi=>jH ops ws i) ws os (j+1) t2 h2 k)=some r->∃v nw T Hs bx,Trace P X ops Q ws j t h k r v nw T Hs bx:=by
   intro t1 Jn mg hw;obtain⟨t',hk,lS⟩:=l7 hw;have AO:∀x,cC t' x=cC t x:=by
    rcases lS with rfl|⟨g,b,hg,rfl⟩
    ·exact Jn
    ·exact λx=>(Cl hg x).trans (Jn x)
   unfold CS at hk;split at hk
   ·rename_i ty p v z_;split at hk
    ·rename_i id zY ue;obtain⟨JZ,Jv⟩:=aQ hk;obtain⟨b,nN,g1,g2,g3⟩:=Ds JZ Jv;have Q_:=g1;rw[nX]at g1;split at g1
     ·rename_i Ec;rw[jq,if_pos rfl,Q_]at g2;simp only[eK]at g2;refine join t' _ .any [(id,b)] (λx=>?_) (λj6 lS=>?_) (λj6 lS=>?_) (λj6 gn=>?_) (GB hX ho z_ ue zY mg AO Ec g1 g3) g2
      ·rw[jb,ue];simpa using AO x
      ·rw[zY]at lS;simp only[aN,cz]at lS⊢;by_cases e:id=j6
       ·subst e;rw[aG];rfl
       ·rw[aO e]at lS⊢;simp only[cond]at lS;rcases lS with h|h
        ·exact absurd h.symm e
        ·exact absurd rfl h
      ·rw[zY]at lS;simp only[aN,cz,not_or]at lS⊢;rw[aO (cq lS.1)]
       simp only[cond,lz,if_neg lS.1]
      ·right;rw[zY]
       simp only[aN]at gn;by_cases e:id=j6
       ·simp[e]
       ·rw[aO e]at gn;exact absurd rfl gn
     ·cases g1
    ·cases hk
   ·rename_i ty m ix x z_;split at hk
    ·rename_i id zY ue;obtain⟨JZ,Jv⟩:=aQ hk;obtain⟨b,nN,g1,g2,g3⟩:=Gc JZ Jv;have Q_:=g1;rw[nX]at g1;split at g1
     ·rename_i Ec;rw[jq,if_pos rfl,Q_]at g2;simp only[eK]at g2;refine join t' _ .any [(id,b)] (λx=>?_) (λj6 lS=>?_) (λj6 lS=>?_) (λj6 gn=>?_) (JB hX ho z_ ue zY mg AO Ec g1 g3) g2
      ·rw[jb,ue];simpa using AO x
      ·rw[zY]at lS;simp only[aN,cz]at lS⊢;by_cases e:id=j6
       ·subst e;rw[aG];rfl
       ·rw[aO e]at lS⊢;simp only[cond]at lS;rcases lS with h|h
        ·exact absurd h.symm e
        ·exact absurd rfl h
      ·rw[zY]at lS;simp only[aN,cz,not_or]at lS⊢;rw[aO (cq lS.1)]
       simp only[cond,lz,if_neg lS.1]
      ·right;rw[zY]
       simp only[aN]at gn;by_cases e:id=j6
       ·simp[e]
       ·rw[aO e]at gn;exact absurd rfl gn
     ·cases g1
    ·cases hk
   ·rename_i aaa ts z_;split at hk
    ·rename_i s x ty rk d has hts ue;split at hk
     ·rename_i u gM;split at hk
      ·rename_i xs RA ys wC xF;obtain⟨iu,Jv⟩:=aQ hk;simp only[aj,decide_eq_true_eq,bU]at iu;obtain⟨⟨sq,MZ⟩,⟨zY,hb⟩,hm⟩:=iu;have ha:aaa=#[s,x]:=by apply f_;simpa using has
       have WH:ts=#[ty,rk]:=by apply f_;simpa using hts
       subst ha WH;refine join _ _ (.cf d) [(d,.rows u (xs++ys))] (xa t' d _ ue AO) (λj6 lS=>?_) (λj6 lS=>?_) (λj6 gn=>?_) (EB hX ho z_ ue zY mg AO gM sq wC xF MZ hb hm) Jv
       ·simp only[aN]
        by_cases e:d=j6
        ·subst e;rw[aG];rfl
        ·rw[aO e]
         simp only[aN,aO e,cond]at lS;simp only[cond]
         rcases lS with h|h
         ·rw[fp,if_pos h]
         ·exact absurd rfl h
       ·simp only[aN,not_or]at lS⊢;by_cases e:d=j6
        ·subst e;rw[aG]at lS;exact absurd ae lS.2
        ·rw[aO e]
         simp only[cond]
         rw[fp,if_neg lS.1]
       ·left;rw[o8,ue]
        simp only[dP,z_,eL,cz]
        simp only[aN]at gn;by_cases e:d=j6
        ·exact e.symm
        ·rw[aO e]at gn;exact absurd rfl gn
      ·cases hk
     ·cases hk
    ·cases hk
   ·split at hk
    ·rename_i d zY ue;obtain⟨out,rm,hall⟩:=(Ak (X:=X) (o:=o) (t:=t') (h:=iy (jH ops ws j) h) (d:=d) (λf vs=>by obtain⟨oo,h⟩:=hX.pe f vs;exact⟨oo,λk=>h (λr e=>k (r,e))⟩)).k hk;obtain⟨iu,Jv⟩:=aQ rm;refine join _ _ out.v out.new (xa t' d _ ue AO) (λj6 lS=>?_) (λj6 lS=>?_) (λj6 gn=>?_) (JC hX ho ue zY mg AO hall) Jv
     ·rw[zY]at lS;have gn:=lS.resolve_left ae
      rw[fF]
      cases he:aN out.new j6 with
      |some b=>rfl
      |none=>exact absurd he gn
     ·rw[fF]
      cases he:aN out.new j6 with
      |some b=>exact absurd (.inr (by rw[he];simp)) lS
      |none=>rfl
     ·left;rw[o8,ue]
      simp only[eL]
      have key:∀(l:bI U El),(l.all λp=>(dP o d).contains p.1)=true->aN l j6≠none->j6∈dP o d:=by
       intro l;induction l with
       |nil=>intro _ h;exact absurd rfl h
       |cons p l ih=>
        intro h1 h2;obtain⟨q,b⟩:=p;simp only[l6,aj]at h1;simp only[aN]at h2;by_cases e:q=j6
        ·subst e;simpa[List.contains_eq_mem]using h1.1
        ·rw[aO e]at h2;exact ih h1.2 h2
      exact key _ iu gn
    ·rename_i i0 wj' d zY ue;split at hk
     ·rename_i f aaa ts z_;unfold Im at hk;split at hk
      ·rename_i g first mO QY
       split at hk
       ·rename_i sp Pp;split at hk
        ·rename_i hs hh;obtain⟨⟨kH,vT⟩,_⟩:=hX.VS g sp Pp;obtain⟨v,hc,hm,Jv⟩:=vT _ _ _ _ hk;obtain⟨iu,yw⟩:=aQ Jv;simp only[aj,decide_eq_true_eq]at iu;obtain⟨Uh,Uv,hok,Jt⟩:=iu;rw[<-Uh]at hh hm;refine join _ _ (v.nG (x_ (p7 (iw ws j) d (jv (iw ws j) hc) hc 0))) _ (xa t' d _ ue AO) (λj6 lS=>?_) (λj6 lS=>?_) (λj6 gn=>?_) (GD hX ho z_ ue rfl mg AO QY kH Uv hh hm hok Jt) yw
         ·rw[fF]
          cases he:aN (py (iy (jH ops ws j) h) hc (jv (iw ws j) hc) (p7 (iw ws j) d (jv (iw ws j) hc) hc 0) (p7 (iw ws j) d (jv (iw ws j) hc) hc 0)) j6 with
          |some b=>rfl
          |none=>
           rcases lS with h|h
           ·simp only;rw[fp,if_pos h]
           ·exact absurd he h
         ·simp only[not_or]at lS;rw[fF]
          cases he:aN (py (iy (jH ops ws j) h) hc (jv (iw ws j) hc) (p7 (iw ws j) d (jv (iw ws j) hc) hc 0) (p7 (iw ws j) d (jv (iw ws j) hc) hc 0)) j6 with
          |some b=>exact absurd (by rw[he];simp) lS.2
          |none=>simp only;rw[fp,if_neg lS.1]
         ·cases he:aN (py (iy (jH ops ws j) h) hc (jv (iw ws j) hc) (p7 (iw ws j) d (jv (iw ws j) hc) hc 0) (p7 (iw ws j) d (jv (iw ws j) hc) hc 0)) j6 with
          |none=>exact absurd he gn
          |some b=>
           obtain⟨jj,b0,g1,_⟩:=wZ _ _ _ he;have:=aP.1 Jt _ g1;simp only[eX,jO,decide_eq_true_eq]at this;rcases this with h|h
           ·right;simp only[Qe,aj,decide_eq_true_eq]at hok;have:=aP.1 hok.2.2.2.2.2 _ h;simp only[aj,jO,decide_eq_true_eq]at this;exact this.1
           ·left;rw[o8,ue]
            simpa[dP,z_]using h
        ·cases hk
       ·cases hk
      ·cases hk
     ·rename_i ty n ps z_;obtain⟨_6,Jw⟩:=aQ hk;obtain⟨out,rm,hall⟩:=(Ak (X:=X) (o:=o) (t:=Fw (iy (jH ops ws j) h) (iw ws j) t') (h:=il (iy (jH ops ws j) h) (iw ws j)) (d:=d) (λf vs=>by obtain⟨oo,h⟩:=hX.pe f vs;exact⟨oo,λk=>h (λr e=>k (r,e))⟩)).k Jw;obtain⟨iu,Jv⟩:=aQ rm;refine join _ _ out.v out.new (xa t' d _ ue AO) (λj6 lS=>?_) (λj6 lS=>?_) (λj6 gn=>?_) (GC hX ho ue mg AO _6 hall) Jv
      ·rw[fF]
       cases he:aN out.new j6 with
       |some b=>rfl
       |none=>
        rcases lS with h|h
        ·simp only;rw[fp,if_pos h]
        ·exact absurd he h
      ·simp only[not_or]at lS;rw[fF]
       cases he:aN out.new j6 with
       |some b=>exact absurd (by rw[he];simp) lS.2
       |none=>simp only;rw[fp,if_neg lS.1]
      ·left;rw[o8,ue]
       simp only[eL]
       have key:∀(l:bI U El),(l.all λp=>(dP o d).contains p.1)=true->aN l j6≠none->j6∈dP o d:=by
        intro l;induction l with
        |nil=>intro _ h;exact absurd rfl h
        |cons p l ih=>
         intro h1 h2;obtain⟨q,b⟩:=p;simp only[l6,aj]at h1;simp only[aN]at h2;by_cases e:q=j6
         ·subst e;simpa[List.contains_eq_mem]using h1.1
         ·rw[aO e]at h2;exact ih h1.2 h2
       exact key _ iu gn
     ·cases hk
    ·cases hk
  unfold guardOf at hv;cases ug:o.guard with
  |none=>
   rw[ug]at hv;simp only at hv;exact EK t (λ_=>rfl) (λ_ _ _ _ _=>by simp[Region.wanted,ug]) hv
  |some jw=>
   obtain⟨gj,want⟩:=jw;rw[ug]at hv;simp only at hv;split at hv
   ·rename_i h;cases h
   ·rename_i g OX heq;simp only[bX,dw]at heq;obtain⟨MX,rfl⟩:=heq
    have skip: ∀(t1:eH U El),(∀x,cC t1 x=cC t x)->(∀(S:Nat->Prop) (ρ:eJ) (w:World) (a:Act),(∀x∈dL ops j,Rel X.E S ρ w (cC t x) (a.tmps.getD x undef))->Region.wanted o (yielded ops a.tmps)=false)->
     (match o.dst,iw ws j with|some d,[]=>jK X (ops.toList.map (·.dst)) (λi=>jH ops ws i) ws os (j+1) ((d,.bP [])::t1) h k|some d,id::wj=>jK X (ops.toList.map (·.dst)) (λi=>jH ops ws i) ws os (j+1) ((d,.bP [])::t1) (iy (λi=>jH ops ws j i&&(id::wj).elem i) h++il h (id::wj)) k|none,_=>none)=some r->∃v nw T Hs bx,Trace P X ops Q ws j t h k r v nw T Hs bx:=by
     intro t1 Jn mg eC;split at eC
     ·rename_i e ue zY;refine join _ h (.bP []) [] (xa t1 e _ ue Jn) (λj6 lS=>?_) (λ_ _=>rfl) (λj6 gn=>absurd rfl gn) ?_ eC
      ·rw[zY]at lS;rcases lS with h|h
       ·cases h
       ·exact absurd rfl h
      ·intro S ρ w a B H K CL hsz hB hG hT hH hs sq hn;unfold wpOp;rw[ho]
       simp only[mg S ρ w a hT,gY,if_false]
       have:=hn undef w S ρ ⟨Fr.refl B w,λ_ h=>h,λ_ h=>.inl h,λ_ _=>rfl,λ_ _ h=>h,by rw[zY];exact hH,tE⟩
       rw[jb]at this;exact this
     ·rename_i e N8 Nh ue zY;have H_:∀i b,aN (iy (λi=>jH ops ws j i&&(N8::Nh).elem i) h) i=some b->jH ops ws j i=true/\i∈iw ws j/\aN h i=some b:=λi b hg=>by
       rw[nX]at hg;split at hg
       ·rename_i hc;simp only[aj,jO,decide_eq_true_eq]at hc;exact⟨hc.1,by rw[zY];exact hc.2,hg⟩
       ·cases hg
      refine join _ (iy (λi=>jH ops ws j i&&(N8::Nh).elem i) h++il h (N8::Nh)) (.bP []) (iy (λi=>jH ops ws j i&&(N8::Nh).elem i) h) (xa t1 e _ ue Jn) (λj6 lS=>?_) (λj6 lS=>?_) (λj6 gn=>?_) ?_ eC
      ·rw[fF]
       cases he:aN (iy (λi=>jH ops ws j i&&(N8::Nh).elem i) h) j6 with
       |some b=>rfl
       |none=>
        rcases lS with h|h
        ·simp only;rw[fp,if_pos (by rw[zY]at h;exact h)]
        ·exact absurd he h
      ·simp only[not_or]at lS;rw[fF]
       cases he:aN (iy (λi=>jH ops ws j i&&(N8::Nh).elem i) h) j6 with
       |some b=>exact absurd (by rw[he];simp) lS.2
       |none=>simp only;rw[fp,if_neg (by rw[<-zY];exact lS.1)]
      ·right;cases he:aN (iy (λi=>jH ops ws j i&&(N8::Nh).elem i) h) j6 with
       |none=>exact absurd he gn
       |some b=>exact(H_ _ _ he).2.1
      ·intro S ρ w a B H K CL hsz hB hG hT hH hs sq hn;unfold wpOp;rw[ho]
       simp only[mg S ρ w a hT,gY,if_false]
       have sub:∀i b,aN (iy (λi=>jH ops ws j i&&(N8::Nh).elem i) h++il H (iw ws j)) i=some b->aN H i=some b:=λi b hg=>by
        rw[fF]at hg;cases he:aN (iy (λi=>jH ops ws j i&&(N8::Nh).elem i) h) i with
        |some b'=>
         rw[he]at hg;cases hg;exact hs i _ (H_ _ _ he).1 (H_ _ _ he).2.2
        |none=>
         rw[he]at hg;simp only at hg;rw[fp]at hg;split at hg
         ·cases hg
         ·exact hg
       have:=hn undef w S ρ ⟨Fr.refl B w,λ_ h=>h,λ_ h=>.inl h,λ_ _=>rfl,λ_ _ h=>h,⟨λi b hg=>hH.get i b (sub i b hg),λi i' b b' l l' hi ku=>hH.inj i i' b b' l l' (sub i b hi) (sub i' b' ku),hH.lt⟩,tE⟩
       rw[jb]at this;exact this
     ·cases eC
    rcases rH hv with⟨b,hb,eC⟩|⟨hb,eC⟩
    ·have Zb: ∀(S:Nat->Prop) (ρ:eJ) (w:World) (a:Act),(∀x∈dL ops j,Rel X.E S ρ w (cC t x) (a.tmps.getD x undef))->Region.wanted o (yielded ops a.tmps)=(!(Bool.xor b want)):=λS ρ w a hT=>by
      have:=hT g (by rw[LI];exact xD ug MX)
      rw[hb]at this;generalize hq:a.tmps.getD g undef=q at this;cases this;exact uU ug MX hq
     cases hx:Bool.xor b want with
     |true=>
      rw[hx]at eC;simp only[cond]at eC;exact skip _ (Cl hb) (λS ρ w a hT=>by rw[Zb S ρ w a hT,hx];rfl) eC
     |false=>
      rw[hx]at eC;simp only[cond]at eC;exact EK _ (Cl hb) (λS ρ w a hT=>by rw[Zb S ρ w a hT,hx];rfl) eC
    ·have hx:Bool.xor (!want) want=true:=by cases want<;>rfl
     rw[hx]at eC;simp only[cond]at eC;refine skip t (λ_=>rfl) (λS ρ w a hT=>?_) eC;have:=hT g (by rw[LI];exact xD ug MX)
     rw[hb]at this;exact ta ug MX (wU this)
   ·cases hv
end
end Go.Proofs.YtfmamkmmohilgaaGreatDoor
namespace Go.Proofs.YtfmamkmmohilgaaGreatDoor
open IntKind
set_option linter.all false
open Go.RowKit
section
variable{U:Type}{El:U->Type}{P:Program}{X:Ctx U El}{S S0:Nat->Prop}{ρ:eJ}{w w0:World} [DecidableEq U] [tD]
variable{o:Oper}{a:Act}{st:St U El}{B:Bd}{d:Nat}{r:Fin U El}
theorem G4{A A':ah Nat}:∀(es:ah Edge) (m:Nat),(∀e∈es,Region.binds .any e=true->A.getD e.on 0=A'.getD e.on 0)->G5 A es m=G5 A' es m:=by
 intro es;induction es with
 |nil=>intro m _;rfl
 |cons e es ih=>
  intro m h;simp only[G5]
  cases hb:Region.binds .any e with
  |false=>exact ih _ (λe' BZ=>h e' (by simp[BZ]))
  |true=>
   rw[h e ae hb]
   exact ih _ (λe' BZ=>h e' (by simp[BZ]))
theorem E_{A:ah Nat}: ∀(es:ah Edge) (m k:Nat),Nat.testBit (G5 A es m) k=true->Nat.testBit m k=true\/ ∃e∈es,Region.binds .any e=true/\(k=e.on\/Nat.testBit (A.getD e.on 0) k=true):=by
 intro es;induction es with
 |nil=>intro m k h;exact .inl h
 |cons e es ih=>
  intro m k h;simp only[G5]at h;rcases ih _ k h with h'|⟨e',BZ,h'⟩
  ·cases hb:Region.binds .any e with
   |false=>rw[hb]at h';exact .inl h'
   |true=>
    rw[hb]at h';simp only[cond]at h';have h2:(Nat.testBit m k||(Nat.testBit (2^e.on) k||Nat.testBit (A.getD e.on 0) k))=true:=by
     rw[<-Nat.testBit_or,<-Nat.testBit_or]
     exact h'
    simp only[eX]at h2;rcases h2 with h2|h2|h2
    ·exact .inl h2
    ·right;refine⟨e,ae,hb,.inl ?_⟩
     rw[Nat.testBit_two_pow]at h2;simpa using(of_decide_eq_true h2).symm
    ·exact .inr ⟨e,ae,hb,.inr h2⟩
  ·exact .inr ⟨e',by simp[BZ],h'⟩
abbrev AG(ops:Array Oper)(k i:Nat):Prop:=Nat.testBit ((o_ ops.toList []).getD i 0) k=true
structure jX (ops:Array Oper) (ws:List (Nat×Nat)) (nt:Nat):Prop where
 dst:∀i e,ga ops i=some e->e<nt/\(0<e\/ke ops i=[])/\e<1000
 UW:∀i,ga ops i=none->ke ops i=[]
 uniq:∀i j x,ga ops i=some x->ga ops j=some x->i=j
 back:∀i o,ops[i]?=some o->∀e∈o.after,Region.binds .any e=true->e.on<i
 looks:∀i k x,i<ops.size->k<ops.size->k≠i->ga ops k=some x->x∈dL ops i->(k<i->AG ops k i)/\(i<k->AG ops i k)
 Va:∀i o,ops[i]?=some o->(o_ ops.toList []).getD i 0=pK (o_ ops.toList []) o
 ev:∀i j id,i<j->(i,id)∈qi ops.toList ws->(j,id)∈qi ops.toList ws->AG ops i j
theorem Oy{ops:Array Oper}{ws:ah (Nat×Nat)}{i id:Nat}(h:id∈ke ops i\/id∈iw ws i):(i,id)∈qi ops.toList ws:=by
 unfold qi;rcases h with h|h
 ·refine List.mem_append_left _ (List.mem_flatMap.2 ?_)
  unfold ke at h;split at h
  ·rename_i o ho;refine⟨(o,i),?_,eT.2 ⟨id,h,rfl⟩⟩
   rw[im]
   simpa using ho
  ·cases h
 ·refine List.mem_append_right _ ?_;unfold iw at h;obtain⟨p,hp,rfl⟩:=eT.1 h;obtain⟨h1,h2⟩:=oO.1 hp;obtain rfl:=al h2;exact h1
theorem Hf{ops:Array Oper}{ws:ah (Nat×Nat)}{i id:Nat}(h:jH ops ws i id=true){j:Nat}(Jx:j≠i)(hj:(j,id)∈qi ops.toList ws):(j<i->AG ops j i)/\(i<j->AG ops i j):=by
 have:=aP.1 h _ hj;dsimp only at this;rw[aG,aO Jx]at this;simp only[fc,fe]at this;refine⟨λhlt=>?_,λhlt=>?_⟩
 ·have hb:Nat.blt j i=true:=kM hlt;rw[hb]at this;exact this
 ·have hb:Nat.blt j i=false:=by
   cases e:Nat.blt j i with
   |false=>rfl
   |true=>have:=aV e;omega
  rw[hb]at this;exact this
theorem MF:∀(os:ah Oper) (acc:ah Nat),∃tl,o_ os acc=acc++tl/\tl.length=os.length:=by
 intro os;induction os with
 |nil=>intro acc;exact⟨[],by simp[o_],rfl⟩
 |cons o os ih=>
  intro acc;obtain⟨tl,h1,h2⟩:=ih (acc++[pK acc o])
  exact⟨pK acc o::tl,by simp[o_,h1],by simp[h2]⟩
theorem ME:∀(os:ah Oper) (acc:ah Nat) (i:Nat) (o:Oper),os[i]?=some o->∃pre,(o_ os acc)[acc.length+i]?=some (pK pre o)/\pre.length=acc.length+i/\∀k,k<pre.length->(o_ os acc)[k]?=pre[k]?:=by
 intro os;induction os with
 |nil=>intro acc i o h;simp at h
 |cons p os ih=>
  intro acc i o h;obtain⟨tl,h1,h2⟩:=MF os (acc++[pK acc p])
  have QC:o_ (p::os) acc=o_ os (acc++[pK acc p]):=rfl;cases i with
  |zero=>
   simp at h;subst h;refine⟨acc,?_,ae,λk hk=>?_⟩
   ·rw[QC,h1];simp
   ·rw[QC,h1,b_,a_ hk]
  |succ i=>
   obtain⟨pre,g1,g2,g3⟩:=ih (acc++[pK acc p]) i o (by simpa using h)
   refine⟨pre,?_,by simp at g2;omega,λk hk=>by rw[QC];exact g3 k hk⟩
   rw[QC]
   rw[show acc.length+(i+1)=(acc++[pK acc p]).length+i by simp;omega]
   exact g1
theorem B4{ops:Array Oper}{ws:ah (Nat×Nat)}{nt:Nat}(h:qz nt ops.toList ws=true):jX ops ws nt:=by
 unfold qz at h;simp only[aj]at h;obtain⟨⟨⟨⟨⟨h1,h2⟩,h3⟩,h4⟩,h5⟩,h6⟩:=h;have mem:∀i o,ops[i]?=some o->(o,i)∈ops.toList.zipIdx:=λi o ho=>by
  rw[im]
  simpa using ho
 have hb:∀i o,ops[i]?=some o->∀e∈o.after,Region.binds .any e=true->e.on<i:=λi o ho e he Us=>by
  have:=aP.1 h1 _ (mem i o ho)
  have:=aP.1 this e (by simpa using he)
  rw[Us]at this;exact aV (by simpa[Nat.blt]using this)
 have z_:∀i e,ga ops i=some e->∃o,ops[i]?=some o/\o.dst=some e:=λi e he=>by
  unfold ga at he;cases ho:ops[i]? with
  |none=>rw[ho]at he;cases he
  |some o=>rw[ho]at he;exact⟨o,rfl,he⟩
 have pair:∀i k o p,ops[i]?=some o->ops[k]?=some p->i≠k->∀x,p.dst=some x->o.dst≠some x/\(x∈Oper.looks (ops.toList.map (·.dst)) o->(bif Nat.blt k i then Nat.testBit ((o_ ops.toList []).getD i 0) k else Nat.testBit ((o_ ops.toList []).getD k 0) i)=true):=λi k o p ho hp gn x hx=>by
  have:=aP.1 (aP.1 h3 _ (mem i o ho)) _ (mem k p hp)
  dsimp only at this;rw[aO gn,hx]at this;simp only[fe,aj,cF,eX]at this;refine⟨λe'=>?_,λhm=>?_⟩
  ·rw[e']at this;simp[aG]at this
  ·rcases this.2 with h|h
   ·exfalso;rw[List.contains_eq_mem]at h;simp at h;exact h hm
   ·exact h
 refine⟨λi e he=>?_,λi he=>?_,λi j x hi hj=>?_,hb,λi k x hi hk gn hx hl=>?_,λi o ho=>?_,λi j id hlt hi hj=>?_⟩
 ·obtain⟨o,ho,ue⟩:=z_ i e he;have:=aP.1 h2 _ (mem i _ ho)
  dsimp only at this;rw[ue]at this;simp only[aj]at this;refine⟨aV this.1.1,?_,aV this.2⟩
  have VN:=this.1.2;rw[eX]at VN;rcases VN with h|h
  ·exact .inl (aV h)
  ·right;simp only[ke,ho,ue,eL]
   simpa using h
 ·unfold ke;cases ho:ops[i]? with
  |none=>rfl
  |some o=>
   have ue:o.dst=none:=by simpa[ga,ho]using he
   have:=aP.1 h2 _ (mem i _ ho)
   dsimp only at this;rw[ue]at this;simp only at this;split at this
   ·rename_i z_;simp[dP,z_]
   ·rename_i z_;simp[dP,z_]
   ·cases this
 ·by_cases h:i=j
  ·exact h
  ·exfalso;obtain⟨o,ho,ue⟩:=z_ i x hi;obtain⟨p,hp,WY⟩:=z_ j x hj;exact(pair i j o p ho hp h x WY).1 ue
 ·obtain⟨p,hp,WY⟩:=z_ k x hx;have ho:ops[i]?=some ops[i]:=aC hi;have:=(pair i k _ p ho hp (cq gn) x WY).2 (by simpa[dL,ho]using hl)
  refine⟨λhlt=>?_,λhlt=>?_⟩
  ·have hb:Nat.blt k i=true:=kM hlt;rw[hb]at this;exact this
  ·have hb:Nat.blt k i=false:=by
    cases e:Nat.blt k i with
    |false=>rfl
    |true=>have:=aV e;omega
   rw[hb]at this;exact this
 ·obtain⟨pre,g1,g2,g3⟩:=ME ops.toList [] i o (by simpa using ho)
  simp only[eW,bZ]at g1 g2;rw[lj,g1]
  simp only[eL]
  unfold pK;refine G4 _ _ (λe he VC=>?_)
  have hlt:=hb i o ho e (by simpa using he) VC;rw[lj,lj,g3 e.on ab]
 ·have:=aP.1 (aP.1 h5 _ hi) _ hj;dsimp only at this;have hb:Nat.blt i j=true:=kM hlt;rw[aG,hb]at this;simpa only[fc,fe]using this
theorem Ga{o:Oper}{d id:Nat}(h:id∈dP o d):id=d\/∃i,i<4/\id=d*1000+i:=by
 unfold dP at h;split at h<;>first
  |(simp at h;exact .inl h)
  |(simp at h;rcases h with h|h;exact .inl h;exact .inr ⟨0,Nat.succ_pos 3,h.trans (gg _).symm⟩)
  |exact .inr (tq.1 h)
  |(simp at h;done)
theorem Jj{ops:Array Oper}{ws:ah (Nat×Nat)}{nt:Nat}(hf:jX ops ws nt){i j id:Nat}(h1:id∈ke ops i)(h2:id∈ke ops j):i=j:=by
 cases he:ga ops i with
 |none=>rw[hf.UW i he]at h1;cases h1
 |some e=>
  cases hx:ga ops j with
  |none=>rw[hf.UW j hx]at h2;cases h2
  |some x=>
   obtain⟨_,Xz,he1⟩:=hf.dst i e he;obtain⟨_,Wz,hx1⟩:=hf.dst j x hx;have he0:0<e:=Xz.resolve_right (λh=>by rw[h]at h1;cases h1)
   have hx0:0<x:=Wz.resolve_right (λh=>by rw[h]at h2;cases h2)
   have key:∀{k y:Nat},ga ops k=some y->id∈ke ops k->id=y\/∃p,p<4/\id=y*1000+p:=by
    intro k y hk hid;unfold ke at hid;unfold ga at hk;cases ho:ops[k]? with
    |none=>rw[ho]at hk;cases hk
    |some o=>
     rw[ho]at hk hid;have ue:o.dst=some y:=hk;simp only[ue,eL]at hid;exact Ga hid
   have hxe:x=e:=by
    rcases key he h1 with a1|⟨p,hp1,a1⟩<;>rcases key hx h2 with a2|⟨q,hq1,a2⟩<;>omega
   subst hxe;exact hf.uniq i j x he hx
section main
variable{ops:Array Oper}{Q:Exit->Act->World->Prop}{ws:ah (Nat×Nat)}{t0:eH U El}{h0:bI U El}{k:St U El->Option (Fin U El)}{v:Nat->AV U El}{nw:Nat->bI U El}{T:Nat->Nat->AV U El}{Hs:Nat->bI U El}{bx:St U El}
theorem Hb(qe:Trace P X ops Q ws 0 t0 h0 k r v nw T Hs bx)(hf:jX ops ws X.nt): ∀i,i<=ops.size->(∀j x,j<i->ga ops j=some x->T i x=v j)/\ ∀x,(∀j,j<i->ga ops j≠some x)->T i x=cC t0 x:=by
 intro i;induction i with
 |zero=>intro _;exact⟨λj x h=>ab,λx _=>qe.T0 x⟩
 |succ i ih=>
  intro hi;obtain⟨h1,h2⟩:=ih ab
  refine⟨λj x hj hx=>?_,λx hx=>?_⟩
  ·rw[qe.stepT i (eS _) ab x]
   by_cases e:j=i
   ·subst e;rw[if_pos hx]
   ·rw[if_neg (λh=>e (hf.uniq j i x hx h))]
    exact h1 j x ab hx
  ·rw[qe.stepT i (eS _) ab x,if_neg (hx i ab)]
   exact h2 x (λj hj=>hx j ab)
def JV(ws:ah (Nat×Nat))(nw:Nat->bI U El)(n id:Nat):Prop:=id∈iw ws n\/aN (nw n) id≠none
open Classical in
noncomputable def Vf (ws:ah (Nat×Nat)) (nw:Nat->bI U El) (h0:bI U El) (L:Nat->Prop):Nat->Nat->Option (qm U El)
 |0,id=>aN h0 id
 |n+1,id=>if L n/\JV ws nw n id then aN (nw n) id else Vf ws nw h0 L n id
theorem xM{L:Nat->Prop}{n id:Nat}(h:L n/\JV ws nw n id):Vf ws nw h0 L (n+1) id=aN (nw n) id:=by simp only[Vf];rw[if_pos h]
theorem pL{L:Nat->Prop}{n id:Nat}(h:¬(L n/\JV ws nw n id)):Vf ws nw h0 L (n+1) id=Vf ws nw h0 L n id:=by simp only[Vf];rw[if_neg h]
theorem MK(qe:Trace P X ops Q ws 0 t0 h0 k r v nw T Hs bx):∀n,n<=ops.size->∀id,aN (Hs n) id=Vf ws nw h0 (λ_=>True) n id:=by
 intro n;induction n with
 |zero=>intro _ id;rw[qe.H0];rfl
 |succ n ih=>
  intro hn id;by_cases h:JV ws nw n id
  ·rw[qe.KA n (eS _) ab id h,xM ⟨trivial,h⟩]
  ·rw[qe.Kz n (eS _) ab id h,pL (λhh=>h hh.2)]
   exact ih ab id
theorem MJ{L L':Nat->Prop}:∀n,(∀j,j<n->(L j↔L' j))->∀id,Vf ws nw h0 L n id=Vf ws nw h0 L' n id:=by
 intro n;induction n with
 |zero=>intro _ id;rfl
 |succ n ih=>
  intro h id;by_cases c:L n/\JV ws nw n id
  ·rw[xM c,xM ⟨(h n ab).1 c.1,c.2⟩]
  ·rw[pL c,pL (λc'=>c ⟨(h n ab).2 c'.1,c'.2⟩)]
   exact ih (λj hj=>h j ab) id
theorem OQ{L:Nat->Prop}:∀n,(∀j,j<n->¬L j)->∀id,Vf ws nw h0 L n id=aN h0 id:=by
 intro n;induction n with
 |zero=>intro _ id;rfl
 |succ n ih=>
  intro h id;rw[pL (λc=>h n ab c.1)]
  exact ih (λj hj=>h j ab) id
theorem C8(qe:Trace P X ops Q ws 0 t0 h0 k r v nw T Hs bx){n id:Nat}(hn:n<ops.size)(h:JV ws nw n id):(n,id)∈qi ops.toList ws:=by
 refine Oy ?_;rcases h with h|h
 ·exact .inr h
 ·exact qe.keys n (eS _) hn id h
theorem OP(qe:Trace P X ops Q ws 0 t0 h0 k r v nw T Hs bx)(hf:jX ops ws X.nt){L:Nat->Prop}{i:Nat}(hi:i<ops.size)(Gp: ¬L i)(Ac: ∀j,j<ops.size->L j->AG ops i j->False):
 ∀n,n<=ops.size->∀id,(i<n/\JV ws nw i id->Vf ws nw h0 (λj=>L j\/j=i) n id=aN (nw i) id)/\(¬(i<n/\JV ws nw i id)->Vf ws nw h0 (λj=>L j\/j=i) n id=Vf ws nw h0 L n id):=by
 intro n;induction n with
 |zero=>intro _ id;exact⟨λh=>ab,λ_=>rfl⟩
 |succ n ih=>
  intro hn id;obtain⟨_M,Y'⟩:=ih ab id;by_cases TX:n=i
  ·subst TX;refine⟨λh=>xM ⟨.inr rfl,h.2⟩,λh=>?_⟩
   have ht:¬JV ws nw n id:=λht=>h ⟨ab,ht⟩
   rw[pL (λc=>ht c.2),pL (λc=>ht c.2)]
   exact Y' (λc=>ab)
  ·by_cases c:L n/\JV ws nw n id
   ·refine⟨λh=>?_,λh=>?_⟩
    ·exfalso;exact Ac n ab c.1 (hf.ev i n id ab (C8 qe hi h.2) (C8 qe ab c.2))
    ·rw[xM ⟨.inl c.1,c.2⟩,xM c]
   ·have c': ¬((λj=>L j\/j=i) n/\JV ws nw n id):=λh=>by
     rcases h.1 with h1|h1
     ·exact c ⟨h1,h.2⟩
     ·exact TX h1
    rw[pL c',pL c]
    exact⟨λh=>_M ⟨ab,h.2⟩,λh=>Y' (λhh=>h ⟨ab,hh.2⟩)⟩
theorem Ru(qe:Trace P X ops Q ws 0 t0 h0 k r v nw T Hs bx){L:Nat->Prop}{i:Nat}(hi:i<ops.size)(Gp: ¬L i)(Oa: ∀j,AG ops j i->L j)(Ac: ∀j,j<ops.size->L j->AG ops i j->False){id:Nat}(hs:jH ops ws i id=true):
 aN (Hs i) id=Vf ws nw h0 L ops.size id:=by
 rw[MK qe i ab id]
 have p1:∀n,n<=i->Vf ws nw h0 (λ_=>True) n id=Vf ws nw h0 L n id:=by
  intro n;induction n with
  |zero=>intro _;rfl
  |succ n ih=>
   intro hn;by_cases h:JV ws nw n id
   ·have:=(Hf hs ab (C8 qe ab h)).1 ab
    rw[xM ⟨trivial,h⟩,xM ⟨Oa n this,h⟩]
   ·rw[pL (λc=>h c.2),pL (λc=>h c.2)]
    exact ih ab
 have p2: ∀n,i<=n->n<=ops.size->Vf ws nw h0 L n id=Vf ws nw h0 L i id:=by
  intro n;induction n with
  |zero=>intro h1 _;have:i=0:=ab
         subst this;rfl
  |succ n ih=>
   intro h1 h2;by_cases e:i=n+1
   ·rw[e]
   ·rw[pL (λc=>?_)]
    ·exact ih ab ab
    ·by_cases e2:n=i
     ·subst e2;exact Gp c.1
     ·exact Ac n ab c.1 ((Hf hs e2 (C8 qe ab c.2)).2 ab)
 rw[p1 i (aY _),p2 ops.size ab (aY _)]
structure Rw (X:Ctx U El) (B:Bd) (S0:Nat->Prop) (w0:World) (ops:Array Oper) (ws:List (Nat×Nat)) (t0:eH U El) (h0:bI U El) (v:Nat->AV U El) (nw:Nat->bI U El) (L:Nat->Prop) (S:Nat->Prop) (ρ:eJ) (H:bI U El) (a:Act) (w:World):Prop where
 defers:a.defers=B.df
 size:a.tmps.size=X.nt
 below:Fr B w0 w
 hB:∀k,w.heap.size<=k->B.own k
 s0:∀b,S0 b->S b
 s1:∀b,S b->S0 b\/B.own b
 g0:∀w',Fr B w0 w'->X.E.G w'
 t1:∀i x,i<ops.size->L i->ga ops i=some x->Rel X.E S ρ w (v i) (a.tmps.getD x undef)
 t2:∀x,(∀i,i<ops.size->L i->ga ops i≠some x)->Rel X.E S ρ w (cC t0 x) (a.tmps.getD x undef)
 heap:fa X.E S ρ w B H
 XW:∀id,aN H id=Vf ws nw h0 L ops.size id
 fresh:∀i,i<ops.size->¬L i->∀id∈ke ops i,ρ id=none
 closed:∀i o,L i->ops[i]?=some o->∀e∈o.after,Region.binds .any e=true->L e.on
theorem GZ(hf:jX ops ws X.nt){L:Nat->Prop}(hc: ∀i o,L i->ops[i]?=some o-> ∀e∈o.after,Region.binds .any e=true->L e.on): ∀i o,ops[i]?=some o->(∀e∈o.after,Region.binds .any e=true->L e.on)-> ∀k,AG ops k i->L k:=by
 intro i;induction i using Nat.strongRecOn with
 |_ i ih=>
  intro o ho hp k hk;unfold AG at hk;rw[hf.Va i o ho]at hk;unfold pK at hk;rcases E_ _ _ _ hk with h|⟨e,he,hb,hk⟩
  ·simp at h
  ·have Vz:e∈o.after:=by simpa using he
   have hL:=hp e Vz hb;rcases hk with rfl|hk
   ·exact hL
   ·have hlt:=hf.back i o ho e Vz hb;have hi:i<ops.size:=(aX.1 ho).1;have Fi:ops[e.on]?=some ops[e.on]:=aC ab
    exact ih e.on hlt _ Fi (hc e.on _ hL Fi) k hk
theorem Rw.done(qe:Trace P X ops Q ws 0 t0 h0 k r v nw T Hs bx)(hf:jX ops ws X.nt){L:Nat->Prop}{H:bI U El}(hm:Rw X B S0 w0 ops ws t0 h0 v nw L S ρ H a w)(hall:∀i,i<ops.size->L i):bK X B S0 w0 bx a w:=by
 obtain⟨XP,VF⟩:=Hb qe hf ops.size (aY _)
 refine⟨S,ρ,hm.defers,hm.size,hm.below,hm.hB,hm.s0,hm.s1,hm.g0,λx=>?_,hm.heap.congr λid=>?_⟩
 ·rw[qe.UM]
  by_cases h:∃i,i<ops.size/\ga ops i=some x
  ·obtain⟨i,hi,hx⟩:=h;rw[XP i x hi hx]
   exact hm.t1 i x hi (hall i hi) hx
  ·rw[VF x (λj hj hx=>h ⟨j,hj,hx⟩)]
   exact hm.t2 x (λi hi _ hx=>h ⟨i,hi,hx⟩)
 ·rw[qe.UP,MK qe ops.size (aY _) id,hm.XW]
  exact MJ ops.size (λj hj=>⟨λ_=>hall j hj,λ_=>trivial⟩) id
theorem Rw.step(hX:bp P X)(qe:Trace P X ops Q ws 0 t0 h0 k r v nw T Hs bx)(hf:jX ops ws X.nt){L:Nat->Prop}{H:bI U El}(hm:Rw X B S0 w0 ops ws t0 h0 v nw L S ρ H a w){i:Nat}{o:Oper}(ho:ops[i]?=some o)(Gp: ¬L i)(hp: ∀e∈o.after,Region.binds .any e=true->L e.on)
 {K:Act->World->Prop} (hK:∀a' w' S' ρ' H',Rw X B S0 w0 ops ws t0 h0 v nw (λj=>L j\/j=i) S' ρ' H' a' w'->K a' w'):wpOp P ops Q i K a w:=by
 have hi:i<ops.size:=(aX.1 ho).1;obtain⟨XP,VF⟩:=Hb qe hf i ab
 have Uy:=GZ hf hm.closed i o ho hp;have Ac:∀j,j<ops.size->L j->AG ops i j->False:=λj hj hL H9=>Gp (by
  have Fi:ops[j]?=some ops[j]:=aC hj;exact GZ hf hm.closed j _ Fi (hm.closed j _ hL Fi) i H9)
 refine qe.fact i (eS _) hi S ρ w a B H K hm.defers hm.size hm.hB (λw' hb=>hm.g0 _ (hm.below.trans hb)) (λx hx=>?_) hm.heap (λid b Ec hg=>?_) (hm.fresh i hi Gp) (λv' w' S' ρ' fJ=>?_)
 ·by_cases h: ∃j,j<ops.size/\j≠i/\ga ops j=some x
  ·obtain⟨j,hj,Jx,Bk⟩:=h;obtain⟨l1,l2⟩:=hf.looks i j x hi hj Jx Bk hx;rcases Nat.lt_or_gt_of_ne Jx with hlt|hlt
   ·rw[XP j x hlt Bk]
    exact hm.t1 j x hj (Uy j (l1 hlt)) Bk
   ·have ν: ¬L j:=λhL=>Ac j hj hL (l2 hlt)
    rw[VF x (λj' xI hx2=>by have:=hf.uniq j' j x hx2 Bk;omega)]
    exact hm.t2 x (λj' xI hL hx2=>ν (by have:=hf.uniq j' j x hx2 Bk;rw[<-this];exact hL))
  ·rw[VF x (λj hj Bk=>h ⟨j,ab,ab,Bk⟩)]
   exact hm.t2 x (λj hj hL Bk=>h ⟨j,hj,by rintro rfl;exact Gp hL,Bk⟩)
 ·rw[hm.XW,<-Ru qe hi Gp Uy Ac Ec]
  exact hg
 ·have xa: ∀x,(a.put (ga ops i) v').tmps.getD x undef=if ga ops i=some x then v' else a.tmps.getD x undef:=λx=>by
   cases hde:ga ops i with
   |none=>simp[Act.put]
   |some e=>
    have Xy:=(hf.dst i e hde).1;simp only[Act.put,aH,bX]
    by_cases h:e=x
    ·subst h;rw[if_pos rfl,db (by rw[hm.size];exact Xy)]
     rfl
    ·rw[if_neg h,eb h]
  refine hK _ _ S' ρ' (nw i++il H (iw ws i)) ⟨by cases ga ops i<;>exact hm.defers,by cases ga ops i<;>simp[Act.put,hm.size],hm.below.trans fJ.below,λk hk=>hm.hB k (ck fJ.below.size hk),λb hb=>fJ.s1 b (hm.s0 b hb),λb hb=>?_,hm.g0,λj x hj hL hx=>?_,λx hx=>?_,fJ.heap,λid=>?_,λj hj hL id hid=>?_,λj o' hL Fi e' BZ pO=>?_⟩
  ·rcases fJ.s2 b hb with h|h
   ·exact hm.s1 b h
   ·exact .inr h
  ·rw[xa]
   by_cases h:j=i
   ·subst h;rw[if_pos hx]
    exact fJ.val
   ·rw[if_neg (λBk=>h (hf.uniq j i x hx Bk))]
    exact fJ.rel _ _ (hm.t1 j x hj (hL.resolve_right h) hx)
  ·rw[xa,if_neg (hx i hi (.inr rfl))]
   exact fJ.rel _ _ (hm.t2 x (λj hj hL=>hx j hj (.inl hL)))
  ·obtain⟨c1,c2⟩:=OP qe hf (h0:=h0) hi Gp Ac ops.size (aY _) id;rw[fF,fp]
   by_cases hT:JV ws nw i id
   ·rw[c1 ⟨hi,hT⟩]
    cases hn:aN (nw i) id with
    |some b=>rfl
    |none=>
     rcases hT with h|h
     ·rw[if_pos h]
     ·exact absurd hn h
   ·rw[c2 (λh=>hT h.2),<-hm.XW]
    cases hn:aN (nw i) id with
    |some b=>exact absurd (.inr (by rw[hn];simp)) hT
    |none=>
     simp only;rw[if_neg (λh=>hT (.inl h))]
  ·have Jx:j≠i:=λh=>hL (.inr h)
   rw[fJ.MR id (λh=>Jx (Jj hf hid h))]
   exact hm.fresh j hj (λh=>hL (.inl h)) id hid
  ·rcases hL with hL|rfl
   ·exact .inl (hm.closed j o' hL Fi e' BZ pO)
   ·rw[ho]at Fi;cases Fi;exact .inl (hp e' BZ pO)
theorem Mi(hX:bp P X)(qe:Trace P X ops Q ws 0 t0 h0 k r v nw T Hs bx)(hf:jX ops ws X.nt)(hN: ∀a' w',bK X B S0 w0 bx a' w'->Q .normal a' w'):
 ∀(fuel:Nat) (listed:Array Bool) (a:Act) (w:World) (l:ah Nat),listed.size=ops.size->l.length<=fuel->(∀i,i<ops.size->listed.getD i false=false->i∈l)->
 (∃S ρ H,Rw X B S0 w0 ops ws t0 h0 v nw (λi=>listed.getD i false=true) S ρ H a w)->wpAny P .any ops Q fuel listed a w:=by
 have last:∀(listed:Array Bool) (a:Act) (w:World),listed.size=ops.size->(∃S ρ H,Rw X B S0 w0 ops ws t0 h0 v nw (λi=>listed.getD i false=true) S ρ H a w)->Region.ready .any ops listed=[]->Q .normal a w:=by
  intro listed a w hsz ⟨S,ρ,H,hm⟩ hr;refine hN a w (hm.done qe hf λi hi=>?_)
  induction i using Nat.strongRecOn with
  |_ i ih=>
   cases hl:listed.getD i false with
   |true=>rfl
   |false=>
    exfalso;have ho:ops[i]?=some ops[i]:=aC hi;have:i∈Region.ready .any ops listed:=mem_ready.2 ⟨by
     rw[aH,aC ab]at hl⊢;exact hl,_,ho,λe he hb=>ih e.on (hf.back i _ ho e he hb) (by have:=hf.back i _ ho e he hb;omega)⟩
    rw[hr]at this;cases this
 intro fuel;induction fuel with
 |zero=>
  intro listed a w l hsz hl Oi hm
  have TW:Region.ready .any ops listed=[]:=by
   cases hr:Region.ready .any ops listed with
   |nil=>rfl
   |cons i rest=>
    exfalso;have nV:i∈Region.ready .any ops listed:=by rw[hr];simp
    obtain⟨h0',o,ho,_⟩:=mem_ready.1 nV;have hi:i<ops.size:=(aX.1 ho).1;have:=Oi i hi (by
     rw[aH,aC ab]at h0'⊢;exact h0')
    have:l=[]:=bq ab
    subst this;simp_all
  exact⟨TW,last listed a w hsz hm TW⟩
 |succ fuel ih=>
  intro listed a w l hsz hl Oi hm;refine⟨last listed a w hsz hm,λi hi=>?_⟩
  obtain⟨h0',o,ho,hp⟩:=mem_ready.1 hi;have rX:i<ops.size:=(aX.1 ho).1;have QC:listed.getD i false=false:=by
   rw[aH,aC ab]at h0'⊢;exact h0'
  obtain⟨S,ρ,H,Xh⟩:=hm;refine Xh.step hX qe hf ho (by rw[QC];simp) hp λa' w' S' ρ' H' T8=>?_
  have aN:∀j,(listed.setIfInBounds i true).getD j false=if j=i then true else listed.getD j false:=λj=>by
   simp only[aH]
   by_cases e:j=i
   ·subst e;rw[if_pos rfl,db ab];rfl
   ·rw[if_neg e,eb (cq e)]
  have nV:=Oi i rX QC;refine ih _ a' w' (l.erase i) (by simpa using hsz) (by rw[List.length_erase_of_mem nV];omega) (λj hj mQ=>?_) ⟨S',ρ',H',?_⟩
  ·rw[aN]at mQ;by_cases e:j=i
   ·subst e;simp at mQ
   ·rw[if_neg e]at mQ;exact(List.mem_erase_of_ne e).2 (Oi j hj mQ)
  ·have:(λj=>(listed.setIfInBounds i true).getD j false=true)=λj=>listed.getD j false=true\/j=i:=by
    funext j;rw[aN]
    by_cases e:j=i<;>simp[e]
   rw[this]
   exact T8
theorem An(hX:bp P X)(hs:bK X B S0 w0 st a w)(hok:qz X.nt ops.toList ws=true)(hN:∀bx a' w',bK X B S0 w0 bx a' w'->k bx=some r->Q .normal a' w')
 (hv:jK X (ops.toList.map (·.dst)) (zb (o_ ops.toList []) (qi ops.toList ws)) ws ops.toList 0 (st.fD (kW ops.toList)).t (st.fD (kW ops.toList)).h k=some r):wpAny P .any ops Q ops.size (Array.replicate ops.size false) a {w with drawn:=w.drawn+1}:=by
 have hf:=B4 hok;obtain⟨v,nw,T,Hs,bx,qe⟩:=Bp (P:=P) (Q:=Q) (ws:=ws) hX ops.toList 0 _ _ rfl ae hv;obtain⟨S,ρ,hi⟩:=hs;have rG:=hi.fD hX (kW ops.toList)
 have LD:∀i,¬((Array.replicate ops.size false).getD i false=true):=λi=>by
  rw[aH]
  by_cases h:i<ops.size<;>simp[h]
 have XA:Fr B w0 {w with drawn:=w.drawn+1}:=rG.below.drew;refine Mi hX qe hf (λa' w' h=>hN bx a' w' h qe.UO) ops.size _ a _ (List.range ops.size) ae ae (λi hi _=>by simpa using hi) ⟨S,ρ.Bq (kW ops.toList),(st.fD (kW ops.toList)).h,
  rG.defers,rG.size,XA,rG.hB,rG.s0,rG.s1,rG.g0,λi x _ hL=>absurd hL (LD i),λx _=>(rG.tmps x).mono (λ_ h=>h) (λ_ _=>rfl) (λ_ _ h=>h),?_,λid=>(OQ ops.size (λj _=>LD j) id).symm,λi hi _ id hid=>?_,λi _ hL=>absurd hL (LD i)⟩
 ·exact⟨λj b hg=>by obtain⟨l,h1,h2⟩:=rG.heap.get j b hg;exact⟨l,h1,h2.mono (λ_ h=>h) (λ_ _=>rfl) (λ_ _ h=>h) (λhn=>⟨rfl,(h2.lt hn).2.2⟩)⟩,rG.heap.inj,rG.heap.lt⟩
 ·refine q_ _ _ id (.inr ?_)
  have ho:ops[i]?=some ops[i]:=aC hi;simp only[ke,ho]at hid;exact List.mem_flatMap.2 ⟨ops[i],ae,hid⟩
theorem Ao{id:Nat}(hX:bp P X)(hs:bK X B S0 w0 st a w)(hok:qz X.nt ops.toList ws=true)(hN:∀bx a' w',bK X B S0 w0 bx a' w'->k bx=some r->Q .normal a' w')
 (hv:jK X (ops.toList.map (·.dst)) (zb (o_ ops.toList []) (qi ops.toList ws)) ws ops.toList 0 (st.fD (kW ops.toList)).t (st.fD (kW ops.toList)).h k=some r):(Code.region id ops true).wp P Q a w:=
 wp_region_any hX.mixed (An hX hs hok hN hv)
end main
end
section last
variable{U:Type}{El:U->Type}{P:Program}{init:Array Oper}{o:Oper}{ws:ah (Nat×Nat)}{Q:Exit->Act->World->Prop}{nt:Nat} [tD]
theorem qW(l:Array Bool)(b d:Bool)(i:Nat):(l.push b).getD i d=if i<l.size then l.getD i d else if i=l.size then b else d:=by
 simp only[aH,dZ]
 by_cases h:i=l.size
 ·subst h;simp
 ·rw[if_neg h,if_neg h]
  by_cases h2:i<l.size
  ·rw[if_pos h2]
  ·rw[if_neg h2,fW ab];rfl
def QL(P:Program)(ops:Array Oper)(m:Nat)(Q:Exit->Act->World->Prop):Exit->Act->World->Prop
 |.normal,a,w=>wpOp P ops Q m (Q .normal) a w
 |e,a,w=>Q e a w
theorem IH{i:Nat}(hi:i<init.size)(hg: ∀(oi:Oper) (g:Nat) (b:Bool),init[i]?=some oi->oi.guard=some (g,b)->g<i){K:Act->World->Prop}{a:Act}{w:World}(h:wpOp P init (QL P (init.push o) init.size Q) i K a w):wpOp P (init.push o) Q i K a w:=by
 unfold wpOp at*;have e:(init.push o)[i]?=init[i]?:=by rw[dZ,if_neg ab]
 rw[e]
 rw[aC hi]at h⊢;simp only at h⊢
 have hw:Region.wanted init[i] (yielded (init.push o) a.tmps)=Region.wanted init[i] (yielded init a.tmps):=by
  unfold Region.wanted;cases ug:init[i].guard with
  |none=>rfl
  |some p=>
   obtain⟨g,b⟩:=p;have:=hg _ g b (aC hi) ug;have e2:(init.push o)[g]?=init[g]?:=by rw[dZ,if_neg ab]
   simp only[yielded,e2]
 rw[hw]
 split at h
 ·rename_i h1;rw[if_pos h1]
  rcases h with h|⟨h2,h3⟩
  ·left;unfold Oper.wp at*;generalize (execOp a.eval init[i]).run P w=r at*;cases r with
   |ok n w'=>
    cases n<;>simp only[Oper.upon]at h⊢ <;>
     first
      |exact h
      |exact Calls.mono h (λe w'' he=>by cases e<;>exact he)
   |halt x w'=>cases x<;>simp only[Oper.upon]at h⊢ <;>exact h
  ·exact .inr ⟨h2,h3⟩
 ·rename_i h1;rw[if_neg h1]
  exact h
theorem Lm [DecidableEq U]{X:Ctx U El}(hf:jX init ws X.nt){L:Nat->Prop}(hL:∀i,L i->i<init.size)(hc:∀i oi,L i->init[i]?=some oi->∀e∈oi.after,Region.binds .any e=true->L e.on)(hp:∀e∈o.after,Region.binds .any e=true->L e.on)(k:Nat)(hk:Nat.testBit (pK (o_ init.toList []) o) k=true):L k:=by
 unfold pK at hk;rcases E_ _ _ _ hk with h|⟨e,he,hb,hk⟩
 ·simp at h
 ·have Vz:e∈o.after:=by simpa using he
  have h1:=hp e Vz hb;rcases hk with rfl|hk
  ·exact h1
  ·have Fi:init[e.on]?=some (init[e.on]'(hL _ h1)):=aC _;exact GZ hf hc e.on _ Fi (hc e.on _ h1 Fi) k hk
theorem Fv [DecidableEq U]{X:Ctx U El}(hf:jX init ws X.nt)(xH: ∀i,i<init.size->Nat.testBit (pK (o_ init.toList []) o) i=true)(Zm: ∀e∈o.after,Region.binds .any e=true->e.on<init.size)(hg: ∀(i:Nat) (oi:Oper) (g:Nat) (b:Bool),init[i]?=some oi->oi.guard=some (g,b)->g<i):
 ∀(fuel:Nat) (listed:Array Bool) (a:Act) (w:World),listed.size=init.size->(∀i oi,listed.getD i false=true->init[i]?=some oi-> ∀e∈oi.after,Region.binds .any e=true->listed.getD e.on false=true)->
  wpAny P .any init (QL P (init.push o) init.size Q) fuel listed a w->wpAny P .any (init.push o) Q (fuel+1) (listed.push false) a w:=by
 have Tf:∀(listed:Array Bool) (i:Nat),listed.getD i false=true->i<listed.size:=λlisted i h=>by
  rcases Nat.lt_or_ge i listed.size with h'|h'
  ·exact h'
  ·rw[aH,fW h']at h;cases h
 have tf:∀(listed:Array Bool) (i:Nat),i<listed.size->listed.getD i true=listed.getD i false:=λlisted i h=>by
  simp[aH,aC h]
 have R1:∀listed:Array Bool,listed.size=init.size->Region.ready .any init listed=[]->∀i,i<init.size->listed.getD i false=true:=by
  intro listed hsz hr i;induction i using Nat.strongRecOn with
  |_ i ih=>
   intro hi;cases hl:listed.getD i false with
   |true=>rfl
   |false=>
    exfalso;have ho:init[i]?=some init[i]:=aC hi;have:i∈Region.ready .any init listed:=mem_ready.2 ⟨by rw[tf listed i ab];exact hl,_,ho,λe he hb=>ih e.on (hf.back i _ ho e he hb) (by have:=hf.back i _ ho e he hb;omega)⟩
    rw[hr]at this;cases this
 have gp:∀(listed:Array Bool) (b:Bool),listed.size=init.size->∀i,i<init.size->(listed.push b).getD i false=listed.getD i false:=λlisted b hsz i hi=>by
  rw[qW,if_pos ab]
 have og:∀i,i<init.size->(init.push o)[i]?=init[i]?:=λi hi=>by rw[dZ,if_neg ab]
 have R2:∀listed:Array Bool,listed.size=init.size->∀i,i<init.size->(i∈Region.ready .any (init.push o) (listed.push false)↔i∈Region.ready .any init listed):=λlisted hsz i hi=>by
  rw[mem_ready,mem_ready,og i hi,qW,if_pos ab]
  constructor
  ·rintro⟨h0,oi,ho,hall⟩
   refine⟨h0,oi,ho,λe he hb=>?_⟩
   have:=hf.back i oi ho e he hb;rw[<-gp listed false hsz e.on ab]
   exact hall e he hb
  ·rintro⟨h0,oi,ho,hall⟩
   refine⟨h0,oi,ho,λe he hb=>?_⟩
   have:=hf.back i oi ho e he hb;rw[gp listed false hsz e.on ab]
   exact hall e he hb
 have R4:∀listed:Array Bool,listed.size=init.size->(∀i,i<init.size->listed.getD i false=true)->init.size∈Region.ready .any (init.push o) (listed.push false):=λlisted hsz hall=>by
  refine mem_ready.2 ⟨by rw[qW,if_neg ab,if_pos hsz.symm],o,ae,λe he hb=>?_⟩
  have:=Zm e he hb;rw[gp listed false hsz e.on this]
  exact hall _ this
 have R5:∀listed:Array Bool,listed.size=init.size->(∀i,i<init.size->listed.getD i false=true)->Region.ready .any (init.push o) ((listed.push false).setIfInBounds init.size true)=[]:=λlisted hsz hall=>by
  rw[List.eq_nil_iff_forall_not_mem]
  intro i hi;obtain⟨h0,oi,ho,_⟩:=mem_ready.1 hi;have hlt:i<init.size+1:=by simpa using(aX.1 ho).1
  by_cases e:i=init.size
  ·subst e;rw[aH,db (by simp;omega)]at h0;cases h0
  ·rw[getD_set_ne true (cq e),qW,if_pos ab,tf listed i ab,hall i ab]at h0;cases h0
 have D':∀(fuel:Nat) (listed:Array Bool) (a:Act) (w:World),listed.size=init.size->(∀i,i<init.size->listed.getD i false=true)->wpOp P (init.push o) Q init.size (Q .normal) a w->
  wpAny P .any (init.push o) Q (fuel+1) (listed.push false) a w:=λfuel listed a w hsz hall hq=>by
  refine⟨λh=>?_,λi hi=>?_⟩
  ·have:=R4 listed hsz hall;rw[h]at this;cases this
  ·obtain⟨h0,oi,ho,_⟩:=mem_ready.1 hi;have hlt:i<init.size+1:=by simpa using(aX.1 ho).1
   by_cases e:i=init.size
   ·subst e;refine wpOp_mono (λa' w' h=>?_) hq;have hr:=R5 listed hsz hall;cases fuel with
    |zero=>exact⟨hr,h⟩
    |succ f=>exact⟨λ_=>h,λj hj=>by rw[hr]at hj;cases hj⟩
   ·exfalso;rw[qW,if_pos ab,tf listed i ab,hall i ab]at h0;cases h0
 intro fuel;induction fuel with
 |zero=>
  intro listed a w hsz hc ⟨hr,hq⟩
  exact D' 0 listed a w hsz (R1 listed hsz hr) hq
 |succ fuel ih=>
  intro listed a w hsz hc ⟨h1,h2⟩
  cases hr:Region.ready .any init listed with
  |nil=>exact D' _ listed a w hsz (R1 listed hsz hr) (h1 hr)
  |cons i0 rest=>
   have rG:i0∈Region.ready .any init listed:=by rw[hr];simp
   have Ui:i0<init.size:=by
    obtain⟨_,oi,ho,_⟩:=mem_ready.1 rG;exact(aX.1 ho).1
   refine⟨λh=>?_,λi hi=>?_⟩
   ·have:=(R2 listed hsz i0 Ui).2 rG;rw[h]at this;cases this
   ·obtain⟨h0,oi,ho,hall⟩:=mem_ready.1 hi;have hlt:i<init.size+1:=by simpa using(aX.1 ho).1
    by_cases e:i=init.size
    ·exfalso;subst e;have θ:oi=o:=by simpa using ho.symm
     subst θ;have LR:∀k,k<init.size->listed.getD k false=true:=λk hk=>
      Lm hf (L:=λk=>listed.getD k false=true) (λj hj=>by rw[<-hsz];exact Tf listed j hj) hc (λe he hb=>by
       have h3:=Zm e he hb;have:=hall e he hb;rw[gp listed false hsz e.on h3]at this;exact this) k (xH k hk)
     obtain⟨h5,_⟩:=mem_ready.1 rG;rw[tf listed i0 ab,LR i0 Ui]at h5;cases h5
    ·have ku:i<init.size:=ab
     have Zg:=(R2 listed hsz i ku).1 hi;obtain⟨h5,oi',Fi,LR⟩:=mem_ready.1 Zg;have iW:(listed.push false).setIfInBounds i true=(listed.setIfInBounds i true).push false:=by
      apply Array.ext_getElem?;intro k;by_cases hk:k=i
      ·subst hk;rw[db (by simp;omega),dZ,if_neg (by simp;omega),db ab]
      ·rw[eb (cq hk),dZ,dZ,eb (cq hk)]
       simp
     rw[iW]
     refine wpOp_mono (λa' w' h=>?_) (IH ku (λoi g b=>hg i oi g b) (h2 i Zg))
     refine ih _ a' w' (by simpa using hsz) (λj oj hj W8 ed Zz VC=>?_) h;by_cases Jx:j=i
     ·subst Jx;rw[Fi]at W8;cases W8;exact getD_set_true (LR ed Zz VC)
     ·rw[getD_set_ne false (cq Jx)]at hj;exact getD_set_true (hc j oj hj W8 ed Zz VC)
end last
end Go.Proofs.YtfmamkmmohilgaaGreatDoor
namespace Go.Proofs.YtfmamkmmohilgaaGreatDoor
open IntKind
set_option linter.all false
open Go.RowKit
section
variable{U:Type}{El:U->Type}{P:Program}{X:Ctx U El}{S S0:Nat->Prop}{ρ ρ':eJ}{w w0:World} [DecidableEq U] [tD]
variable{a:Act}{st:St U El}{B:Bd}{r:Fin U El}
theorem Rel.IV{E:fZ U El}{c:AV U El}{v:Value}(hg:oJ P E){σ:Nat->Nat}(hr:Rel E S ρ w c v)(AM:∀j l,ρ j=some l->ρ' (σ j)=some l):Rel E S ρ' w (c.nG σ) v:=by
 have ix:∀{cs:ah (AV U El)} {i:Nat} {c':AV U El},(cs.map (AV.nG σ))[i]?=some c'->∃c,cs[i]?=some c/\c.nG σ=c':=λh=>by simpa[bo,aJ]using h
 induction hr with
 |any v=>exact .any v
 |bool b=>exact .bool b
 |int k n=>exact .int k n
 |str s=>exact .str s
 |j5=>exact .j5
 |cL=>exact .cL
 |lN=>exact .lN
 |oT=>exact .oT
 |oz=>exact .oz
 |agg cs vs hl h ih=>
  show Rel E S ρ' w (.agg (AV.nG.sb σ cs)) _;rw[me]
  refine .agg _ vs (by simp[hl]) λi c' v hc hv=>?_
  obtain⟨c,h1,rfl⟩:=ix hc;exact ih i c v h1 hv
 |bP cs vs hl h ih=>
  show Rel E S ρ' w (.bP (AV.nG.sb σ cs)) _;rw[me]
  refine .bP _ vs (by simp[hl]) λi c' v hc hv=>?_
  obtain⟨c,h1,rfl⟩:=ix hc;exact ih i c v h1 hv
 |jy u ao cap=>exact .jy u ao cap
 |au u xs b off cap val hb hc hcell h ih=>exact .au u xs b off cap val hb hc hcell λi x j c hi hj=>(h i x j c hi hj).ew hg (hg.cell u x c (aD hj))
 |cf j cap l hl h1 h2=>exact .cf _ cap l (AM _ _ hl) h1 h2
 |j7 j l hl h1 h2=>exact .j7 _ l (AM _ _ hl) h1 h2
 |own j lo len cap l hl h1 h2 h3=>exact .own _ lo len cap l (AM _ _ hl) h1 h2 h3
 |nH j lo ao cap=>exact .nH _ lo ao cap
 |ptr j off l hl=>exact .ptr _ off l (AM _ _ hl)
 |row j i off l hl=>exact .row _ i off l (AM _ _ hl)
 |mp j l hl=>exact .mp _ l (AM _ _ hl)
 |sr u v es b eQ clock hb hh hn hf hk hv Qt Qs=>exact .sr u v es b eQ clock hb hh hn hf (λi e p j c x h1 h2 h3 h4=>(hk i e p j c x h1 h2 h3 h4).ew hg (hg.cell u p.1 c (aD h3))) (λi e p j c x h1 h2 h3 h4=>(hv i e p j c x h1 h2 h3 h4).ew hg (hg.cell v p.2 c (aD h3)))
 |pel u xs i off b o cap h hi ih=>
  refine .pel u xs i off b o cap ?_ hi;exact ih
 |pcs cs off b o val hb hcell h ih=>
  show Rel E S ρ' w (.pcs (AV.nG.sb σ cs) off) _;rw[me]
  refine .pcs _ off b o val (λhn=>hb (by rintro rfl;exact hn rfl)) (λj c' hj=>?_) λj c' hj=>?_
  ·obtain⟨c,h1,_⟩:=ix hj;exact hcell j c h1
  ·obtain⟨c,h1,rfl⟩:=ix hj;exact ih j c h1
 |fn f fs cs vf vc sg tR hf hc Qu Qv=>
  show Rel E S ρ' w (.fn f (AV.nG.sb σ fs) (AV.nG.sb σ cs)) _;rw[me,me]
  refine .fn f _ _ vf vc (by simp[sg]) (by simp[tR]) (λi c' v hc hv=>?_) (λi c' v hc hv=>?_)
  ·obtain⟨c,h1,rfl⟩:=ix hc;exact Qu i c v h1 hv
  ·obtain⟨c,h1,rfl⟩:=ix hc;exact Qv i c v h1 hv
 |err t v=>exact .err t v
theorem dt.IV{E:fZ U El}{l:Loc}{b:qm U El}{σ:Nat->Nat}(hg:oJ P E)(h:dt E S ρ w B l b)(AM:∀j l,ρ j=some l->ρ' (σ j)=some l):dt E S ρ' w B l (b.nG σ b.tag):=by
 cases b with
 |rows u xs=>
  obtain⟨h1,h2,h3,h4⟩:=h;refine⟨h1,h2,h3,λhn=>?_⟩
  obtain⟨h5,h6,c,hh,h7,h8⟩:=h4 hn;exact⟨h5,h6,c,hh,h7,λi x j a hi hj=>by obtain⟨v,hv,hr⟩:=h8 i x j a hi hj;exact⟨v,hv,hr.ew hg (hg.cell u x a (aD hj))⟩⟩
 |pZ t u xs=>
  obtain⟨h0,h1,h2,h3,h4⟩:=h;have hr:dt E S ρ' w B l (.rows u xs):=by
   refine⟨h1,h2,h3,λhn=>?_⟩
   obtain⟨h5,h6,c,hh,h7,h8⟩:=h4 hn;exact⟨h5,h6,c,hh,h7,λi x j a hi hj=>by obtain⟨v,hv,hr⟩:=h8 i x j a hi hj;exact⟨v,hv,hr.ew hg (hg.cell u x a (aD hj))⟩⟩
  show dt E S ρ' w B l (bif Nat.beq t 0 then .rows u xs else .pZ t u xs)
  cases Nat.beq t 0 with
  |true=>exact hr
  |false=>exact⟨h0,hr⟩
 |map u v es=>
  obtain⟨h1,h4,h5,c0,c1,hh,h6,h7⟩:=h;exact⟨h1,h4,h5,c0,c1,hh,h6,λi e p hi hj=>⟨(h7 i e p hi hj).1.ew hg,(h7 i e p hi hj).2.ew hg⟩⟩
 |jC u ks cs=>
  obtain⟨h1,h4,h5,c0,c1,hh,h6,h7,h8⟩:=h;refine⟨h1,h4,h5,c0,c1,hh,h6,by simpa using h7,λi e y c hi hj hk=>?_⟩
  simp only[bo,aJ]at hk;obtain⟨a0,xX,rfl⟩:=hk;exact⟨(h8 i e y a0 hi hj xX).1.ew hg,(h8 i e y a0 hi hj xX).2.IV hg AM⟩
 |box t cs=>
  obtain⟨h0,h1,h2⟩:=h;refine⟨h0,by simpa using h1,λhn=>?_⟩
  obtain⟨h5,h6,c,e,hh,h7,h8⟩:=h2 hn;refine⟨h5,h6,c,e,hh,h7,λj a hj=>?_⟩
  simp only[bo,aJ]at hj;obtain⟨a0,xX,rfl⟩:=hj;obtain⟨v,hv,hr⟩:=h8 j a0 xX;exact⟨v,hv,hr.IV hg AM⟩
 |uk T j=>
  obtain⟨h1,h4,h5,c0,c1,hh,h6,h7,h8⟩:=h;exact⟨h1,h4,h5,c0,c1,hh,h6,h7,h8.IV hg AM⟩
theorem Dn(id j:Nat)(t:eH U El)(i:Nat):cC (vw id j t) i=(cC t i).nG (xS id j):=by
 induction t with
 |nil=>rfl
 |cons p t ih=>
  obtain⟨k,v⟩:=p;simp only[vw,cC]
  cases Nat.beq k i<;>simp[ih]
theorem s_{id j:Nat}(gn:id≠j):∀{h:bI U El},aN h j=none->∀i b,aN (yr id j h) i=some b->∃i0 b0,xS id j i0=i/\aN h i0=some b0/\b=b0.nG (xS id j) b0.tag:=by
 intro h;induction h with
 |nil=>intro _ i b h;cases h
 |cons p h ih=>
  obtain⟨k,c⟩:=p;intro hj i b hg;have Xp:k≠j:=by
   rintro rfl;simp only[aN,aG]at hj;cases hj
  have xI:aN h j=none:=by simpa[aN,aO Xp]using hj
  simp only[yr,aN]at hg;by_cases e:xS id j k=i
  ·rw[e,aG]at hg;cases hg;exact⟨k,c,e,by simp[aN,aG],rfl⟩
  ·rw[aO e]at hg;obtain⟨i0,b0,h1,h2,h3⟩:=ih xI i b hg;refine⟨i0,b0,h1,?_,h3⟩
   have:k≠i0:=by rintro rfl;exact e h1
   simp only[aN,aO this]
   exact h2
theorem Inv.rename(hX:bp P X){id j:Nat}(gn:id≠j)(hi:Inv X B S0 w0 S ρ st a w)(hj:ρ j=none):∃ρ',Inv X B S0 w0 S ρ' (st.rename id j) a w:=by
 obtain⟨ρ',Wu⟩:∃ρ':eJ,ρ'=λi=>if i=j then ρ id else if i=id then none else ρ i:=⟨_,rfl⟩
 have AM:∀k l,ρ k=some l->ρ' (xS id j k)=some l:=λk l h=>by
  rw[Wu]
  unfold xS;by_cases e:k=id
  ·subst e;rw[aG];simp[h]
  ·rw[aO e]
   have:k≠j:=by rintro rfl;rw[hj]at h;cases h
   simp[e,this,h]
 have LJ:∀{k k':Nat},k≠j->k'≠j->xS id j k=xS id j k'->k=k':=λ{k k'} h1 h2 e=>by
  unfold xS at e;by_cases e1:k=id<;>by_cases e2:k'=id
  ·rw[e1,e2]
  ·subst e1;rw[aG,aO e2]at e;exact absurd e.symm h2
  ·subst e2;rw[aG,aO e1]at e;exact absurd e h1
  ·rw[aO e1,aO e2]at e;exact e
 have Xq:aN st.h j=none:=by
  cases hg:aN st.h j with
  |none=>rfl
  |some b=>obtain⟨l,hl,_⟩:=hi.heap.get j b hg;rw[hj]at hl;cases hl
 refine⟨ρ',hi.defers,hi.size,hi.below,hi.hB,hi.s0,hi.s1,hi.g0,λi=>?_,⟨λi b hg=>?_,λi i' b b' l l' hg qQ hn hl dq o7 pN=>?_,hi.heap.lt⟩⟩
 ·show Rel X.E S ρ' w (cC (vw id j st.t) i) _;rw[Dn]
  exact(hi.tmps i).IV hX.u AM
 ·obtain⟨i0,b0,rfl,h2,rfl⟩:=s_ gn Xq i b hg;obtain⟨l,hl,hb⟩:=hi.heap.get i0 b0 h2;exact⟨l,AM i0 l hl,hb.IV hX.u AM⟩
 ·obtain⟨i0,b0,rfl,h2,rfl⟩:=s_ gn Xq i b hg;obtain⟨i1,b1,rfl,h4,rfl⟩:=s_ gn Xq i' b' qQ;obtain⟨l0,Gq,_⟩:=hi.heap.get i0 b0 h2;obtain⟨l1,Db,_⟩:=hi.heap.get i1 b1 h4;have e0:=AM i0 l0 Gq;rw[hl]at e0;cases e0;have e1:=AM i1 l1 Db;rw[dq]at e1;cases e1;exact hi.heap.inj i0 i1 b0 b1 l l' h2 h4 (λe=>hn (by rw[e])) Gq Db o7 pN
theorem As{b off j:Nat}{u:U}{k:St U El->Option (Fin U El)}(hX:bp P X)(hs:bK X B S0 w0 st a w)(hv:Au st b off u j k=some r): ∃bx,bK X B S0 w0 bx a w/\k bx=some r:=by
 obtain⟨S,ρ,hi⟩:=hs;unfold Au at hv;split at hv
 ·rename_i tg0 cs0 Dd;split at hv
  ·rename_i id hc;by_cases e:id=j
   ·subst e;rw[aG]at hv;exact⟨st,⟨S,ρ,hi⟩,hv⟩
   ·rw[aO e]at hv;obtain⟨ρ',h'⟩:=(hi.forget hX j).rename hX e (by simp[eJ.del])
    exact⟨_,⟨S,ρ',h'⟩,hv⟩
  ·rename_i id hc;by_cases e:id=j
   ·subst e;rw[aG]at hv;exact⟨st,⟨S,ρ,hi⟩,hv⟩
   ·rw[aO e]at hv;obtain⟨ρ',h'⟩:=(hi.forget hX j).rename hX e (by simp[eJ.del])
    exact⟨_,⟨S,ρ',h'⟩,hv⟩
  ·split at hv
   ·rename_i tg cs hg;split at hv
    ·rename_i hc;have hf:=hi.forget hX j;obtain⟨l,hl,hb⟩:=hf.heap.get _ _ hg;have Qx:(ρ.del j) j=none:=by simp[eJ.del]
     have hbj:b≠j:=by rintro rfl;rw[Qx]at hl;cases hl
     have e1:((ρ.del j).set j ⟨0,0,X.E.sz u,0⟩) j=some ⟨0,0,X.E.sz u,0⟩:=by simp[eJ.set]
     have lC:∀i l',(ρ.del j) i=some l'->((ρ.del j).set j ⟨0,0,X.E.sz u,0⟩) i=some l':=λi l' h=>by
      by_cases e:i=j
      ·subst e;rw[Qx]at h;cases h
      ·simp[eJ.set,e,h]
     have Px:∀i l',((ρ.del j).set j ⟨0,0,X.E.sz u,0⟩) i=some l'->i≠j->(ρ.del j) i=some l':=λi l' h e=>by simpa[eJ.set,e]using h
     have lG:aN (st.forget j).h j=none:=by
      cases hh:aN (st.forget j).h j with
      |none=>rfl
      |some b0=>obtain⟨l0,h0,_⟩:=hf.heap.get j b0 hh;rw[Qx]at h0;cases h0
     have hcase:∀i c,aN (iW (st.forget j).h b (.box tg (cs.set off (.cf j)))) i=some c->(i=b/\c=.box tg (cs.set off (.cf j)))\/(i≠b/\aN (st.forget j).h i=some c):=λi c h=>by
      rw[jq]at h;by_cases e:i=b
      ·subst e;rw[if_pos rfl,hg]at h;cases h;exact .inl ⟨rfl,rfl⟩
      ·rw[if_neg e]at h;exact .inr ⟨e,h⟩
     refine⟨⟨(st.forget j).t,(j,.rows u [])::iW (st.forget j).h b (.box tg (cs.set off (.cf j)))⟩,⟨S,(ρ.del j).set j ⟨0,0,X.E.sz u,0⟩,hf.defers,hf.size,hf.below,hf.hB,hf.s0,hf.s1,hf.g0,λi=>(hf.tmps i).mono (λ_ h=>h) (λ_ _=>rfl) lC,⟨λi c kY=>?_,λi i' c c' l1 l2 kY LL gn oL rF o7 pN=>?_,hf.heap.lt⟩⟩,hv⟩
     ·simp only[aN]at kY;by_cases e:j=i
      ·subst e;rw[aG]at kY;cases kY;exact⟨_,e1,rfl,rfl,ae,λh=>absurd rfl h⟩
      ·rw[aO e]at kY;rcases hcase i c kY with⟨rfl,rfl⟩|⟨hib,Er⟩
       ·refine⟨l,lC _ _ hl,?_⟩
        obtain⟨b0,b1,b2⟩:=hb;refine⟨b0,by simpa using b1,λhn=>?_⟩
        obtain⟨b3,b4,c0,e0,hh,b5,b6⟩:=b2 hn;refine⟨b3,b4,c0,e0,hh,b5,λm x hm=>?_⟩
        by_cases em:m=off
        ·subst em;obtain⟨v,eC,hr⟩:=b6 m _ hc;have Vu:m<cs.length:=(ak.1 hc).1;rw[fm Vu]at hm;cases hm;cases hr;exact⟨_,eC,.j7 j _ e1 rfl rfl⟩
        ·rw[gv (cq em)]at hm;obtain⟨v,eC,hr⟩:=b6 m x hm;exact⟨v,eC,hr.mono (λ_ h=>h) (λ_ _=>rfl) lC⟩
       ·obtain⟨l',dq,pO⟩:=hf.heap.get i c Er;exact⟨l',lC _ _ dq,pO.mono (λ_ h=>h) (λ_ _=>rfl) lC (λhn=>⟨rfl,(pO.lt hn).2.2⟩)⟩
     ·simp only[aN]at kY LL;by_cases ei:j=i
      ·subst ei;rw[e1]at oL;cases oL;exact absurd rfl o7
      ·by_cases Yg:j=i'
       ·subst Yg;rw[e1]at rF;cases rF;exact absurd rfl pN
       ·rw[aO ei]at kY;rw[aO Yg]at LL;have k1:∃c0,aN (st.forget j).h i=some c0:=by
         rcases hcase i c kY with⟨rfl,_⟩|⟨_,h⟩
         ·exact⟨_,hg⟩
         ·exact⟨_,h⟩
        have k2:∃c0,aN (st.forget j).h i'=some c0:=by
         rcases hcase i' c' LL with⟨rfl,_⟩|⟨_,h⟩
         ·exact⟨_,hg⟩
         ·exact⟨_,h⟩
        obtain⟨c1,h1⟩:=k1;obtain⟨c2,h2⟩:=k2;exact hf.heap.inj i i' c1 c2 l1 l2 h1 h2 gn (Px i l1 oL (cq ei)) (Px i' l2 rF (cq Yg)) o7 pN
    ·exact⟨st,⟨S,ρ,hi⟩,hv⟩
   ·exact⟨st,⟨S,ρ,hi⟩,hv⟩
  ·exact⟨st,⟨S,ρ,hi⟩,hv⟩
 ·exact⟨st,⟨S,ρ,hi⟩,hv⟩
theorem ye(hX:bp P X):∀(cs:ah (Nat×Nat×U×Nat)) (st:St U El) (k:St U El->Option (Fin U El)),bK X B S0 w0 st a w->xl st cs k=some r->∃bx,bK X B S0 w0 bx a w/\k bx=some r:=by
 intro cs;induction cs with
 |nil=>intro st k hs hv;exact⟨st,hs,hv⟩
 |cons c cs ih=>
  obtain⟨b,off,u,j⟩:=c;intro st k hs hv;obtain⟨qq,h1,h2⟩:=As hX hs hv;exact ih qq k h1 h2
end
end Go.Proofs.YtfmamkmmohilgaaGreatDoor
