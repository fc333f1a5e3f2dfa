/- Runs on known values; contracts of functions that the law reaches, fifth part: the recorder. Conditions: each contract's own precondition. -/
import Derived.Test.YtfmamkmmohilgaaGreatDoorRB
namespace Go.Proofs.YtfmamkmmohilgaaGreatDoor
open IntKind
set_option linter.all false
open Go.RowKit
section
variable{U:Type}{El:U->Type}{P:Program}{X:Ctx U El}{S S0:Nat->Prop}{ρ:eJ}{w w0:World} [DecidableEq U] [tD]
variable{o:Oper}{a:Act}{st:St U El}{B:Bd}{d:Nat}{r:Fin U El}
def OZ:bI U El->Nat->Nat
 |[],m=>m
 |(j,_)::h,m=>OZ h (bif Nat.blt j dD&&Nat.blt m j then j else m)
def xd(h:bI U El):Nat:=OZ h 2000000+1
def freshen(p:Nat->Bool):ah Nat->St U El->St U El
 |[],st=>st
 |id::ids,st=>bif p id then(bif Nat.beq id (xd st.h)then freshen p ids st else freshen p ids ((st.forget (xd st.h)).rename id (xd st.h)))else freshen p ids st
theorem ux(hX:bp P X)(p:Nat->Bool): ∀(ids:ah Nat) (st:St U El),bK X B S0 w0 st a w->bK X B S0 w0 (freshen p ids st) a w:=by
 intro ids;induction ids with
 |nil=>intro st hs;exact hs
 |cons id ids ih=>
  intro st hs;unfold freshen;cases p id with
  |false=>exact ih st hs
  |true=>
   simp only[cond_true]
   by_cases e:id=xd st.h
   ·rw[show Nat.beq id (xd st.h)=true by rw[<-e];exact aG id,cond_true];exact ih st hs
   ·rw[aO e,cond_false]
    obtain⟨S,ρ,hi⟩:=hs;obtain⟨ρ',ku⟩:=(hi.forget hX (xd st.h)).rename hX e (by simp[eJ.del])
    exact ih _ ⟨S,ρ',ku⟩
def OE(d j:Nat):Bool:=Nat.beq j d||(Nat.ble (d*1000) j&&Nat.blt j (d*1000+1000))
def makes(o:Oper):Bool:=
 match o.op with
 |.box _ _=>true
 |.alloc _=>true
 |.buildSlice _ _ _=>true
 |.makeSlice _ _ _=>true
 |.makeMap _ _=>true
 |.call ⟨.value _,_,_⟩=>true
 |.call ⟨.builtin .append,_,_⟩=>true
 |_=>false
def tV(o:Oper)(st:St U El):St U El:=bif makes o then freshen (OE (o.dst.getD 999)) (st.h.map (·.1)) st else st
def Ah:ah Oper->St U El->St U El
 |[],st=>st
 |o::os,st=>Ah os (tV o st)
theorem uy(hX:bp P X)(o:Oper)(hs:bK X B S0 w0 st a w):bK X B S0 w0 (tV o st) a w:=by
 unfold tV;cases makes o
 ·exact hs
 ·exact ux hX _ _ _ hs
theorem Ag(hX:bp P X):∀(os:ah Oper) (st:St U El),bK X B S0 w0 st a w->bK X B S0 w0 (Ah os st) a w:=by
 intro os;induction os with
 |nil=>intro st hs;exact hs
 |cons o os ih=>intro st hs;exact ih _ (uy hX o hs)
theorem DR{ty:TypeId}{u:U}(ho:o.op=.makeMap ty none)(hlt:∀b,S b->b<w.heap.size)(hd:ρ d=none):fG P X.E S ρ w o a d ⟨.mp d,[(d,.jC u [] [])]⟩:=by
 refine uX (ob:=.map #[] 0) (v:=.map (some w.heap.size)) ⟨w.heap.size,1,1,0⟩ (by simp[dP,ho]) hd ?_ hlt (λ_=>rfl) (λρ' h1 _=>.mp d _ h1) (λρ' h1 _ rW=>?_)
 ·simp only[execOp,ho,Instr.makeMap,Option.map_none];rfl
 ·exact⟨rfl,aY _,rW,#[],0,lD w _,rfl,rfl,λi e y c hi=>by simp at hi⟩
theorem Iw{m:Value}{id:Nat}{u:U}{ks:ah (El u)}{cs:ah (AV U El)}{H:bI U El}(hr:Rel X.E S ρ w (.mp id) m)(hH:fa X.E S ρ w B H)(hg:aN H id=some (.jC u ks cs)):
 ∃l eQ clock,ρ id=some l/\m=.map (some l.b)/\l.n=1/\B.own l.b/\¬S l.b/\w.heap[l.b]?=some (.map eQ clock)/\eQ.size=ks.length/\eQ.size=cs.length/\∀(i:Nat) (e:MapEntry) (y:El u) (c:AV U El),eQ[i]?=some e->ks[i]?=some y->cs[i]?=some c->gz X.E S ρ w u y e.key/\Rel X.E S ρ w c e.val:=by
 cases hr with
 |mp _ l hl=>
  obtain⟨l',dq,iV⟩:=hH.get _ _ hg;rw[hl]at dq;cases dq;obtain⟨h1,h2,h3,eQ,clock,h4,h5,h6,h7⟩:=iV;exact⟨l,eQ,clock,hl,rfl,h1,h2,h3,h4,h5,h6,h7⟩
theorem B7{u:U}{ks:ah (El u)}{cs:ah (AV U El)}{eQ:Array MapEntry}{x:El u}{kv:Value}(K:AE P X.E u)(hsz:eQ.size=ks.length)(aA:eQ.size=cs.length)
 (oG:∀(i:Nat) (e:MapEntry) (y:El u) (c:AV U El),eQ[i]?=some e->ks[i]?=some y->cs[i]?=some c->gz X.E S ρ w u y e.key/\Rel X.E S ρ w c e.val) (hk:gz X.E S ρ w u x kv):
 ((Instr.findKey (X.E.tid u) kv eQ.toList).run P w=.ok none w/\na (X.E.nu u) ks x=none)\/
 ∃i e y c,(Instr.findKey (X.E.tid u) kv eQ.toList).run P w=.ok (some (i,e.val)) w/\na (X.E.nu u) ks x=some i/\eQ[i]?=some e/\ks[i]?=some y/\cs[i]?=some c/\X.E.nu u x y=true/\gz X.E S ρ w u y e.key/\Rel X.E S ρ w c e.val:=by
 have hf:=K.find eQ.toList ks hk (by simp[hsz]) (λi e y he hy=>by
  have rX:i<cs.length:=by rw[<-aA,hsz];exact(ak.1 hy).1
  exact(oG i e y _ (by simpa using he) hy (az rX)).1)
 cases hm:na (X.E.nu u) ks x with
 |none=>exact .inl ⟨by rw[hf,hm];rfl,rfl⟩
 |some i=>
  obtain⟨y,h1,h2⟩:=HQ _ _ _ _ hm;have Φ:i<ks.length:=(ak.1 h1).1;have rX:i<eQ.size:=by rw[hsz];exact Φ
  have Ω:i<cs.length:=by rw[<-aA];exact rX
  have he:eQ[i]?=some eQ[i]:=aC rX;have hc:cs[i]?=some cs[i]:=az Ω;obtain⟨g1,g2⟩:=oG i _ y _ he h1 hc;refine .inr ⟨i,eQ[i],y,cs[i],?_,rfl,he,h1,hc,h2,g1,g2⟩
  rw[hf,hm]
  simp[rX]
theorem Inv.Nu{id:Nat}{l:Loc}{u:U}{ks N2:ah (El u)}{cs yc:ah (AV U El)}{eQ iY:Array MapEntry}{clock clock':Nat}(hi:Inv X B S0 w0 S ρ st a w)(hg:aN st.h id=some (.jC u ks cs))(hl:ρ id=some l)(hh:w.heap[l.b]?=some (.map eQ clock))
 (hsz:iY.size=N2.length) (aA:iY.size=yc.length) (oG:∀(i:Nat) (e:MapEntry) (y:El u) (c:AV U El),iY[i]?=some e->N2[i]?=some y->yc[i]?=some c->gz X.E S ρ w u y e.key/\Rel X.E S ρ w c e.val):
 Inv X B S0 w0 S ρ ⟨st.t,iW st.h id (.jC u N2 yc)⟩ a {w with heap:=w.heap.setIfInBounds l.b (.map iY clock')}:=by
 obtain⟨l',dq,hb⟩:=hi.heap.get _ _ hg;rw[hl]at dq;cases dq;have hn:l.n≠0:=by have:=hb.1;omega
 obtain⟨h1,h2,h3⟩:=hb.lt hn;have Gn:∀k,k≠l.b->({w with heap:=w.heap.setIfInBounds l.b (.map iY clock')}:World).heap[k]?=w.heap[k]?:=λk hk=>by simp[cq hk]
 have gT:∀k,S k->({w with heap:=w.heap.setIfInBounds l.b (.map iY clock')}:World).heap[k]?=w.heap[k]?:=λk hk=>Gn k (by rintro rfl;exact h3 hk)
 refine⟨hi.defers,hi.size,hi.below.trans ⟨rfl,rfl,rfl,ae,λ_=>aY _,λk hk hb=>Gn k (by rintro rfl;exact hb h2)⟩,by simpa using hi.hB,hi.s0,hi.s1,hi.g0,λi=>(hi.tmps i).mono (λ_ h=>h) gT (λ_ _ h=>h),⟨λj b' hj=>?_,λi j b1 b2 l1 l2 kY lG gn oL lV o7 pN=>?_,λk hk=>by simpa using hi.heap.lt k hk⟩⟩
 ·rw[jq]at hj;by_cases e:j=id
  ·subst e;rw[if_pos rfl,hg]at hj;cases hj;exact⟨l,hl,hb.1,h2,h3,iY,clock',by simp[h1],hsz,aA,λi e y c ku hy hc=>⟨(oG i e y c ku hy hc).1.mono (λ_ h=>h) gT (λ_ _ h=>h),(oG i e y c ku hy hc).2.mono (λ_ h=>h) gT (λ_ _ h=>h)⟩⟩
  ·rw[if_neg e]at hj;obtain⟨l',dq,pO⟩:=hi.heap.get j b' hj;refine⟨l',dq,pO.mono (λ_ h=>h) gT (λ_ _ h=>h) λoK=>⟨Gn _ ?_,(pO.lt oK).2.2⟩⟩
   exact hi.heap.inj j id b' _ l' l hj hg e dq hl oK hn
 ·have k: ∀j b',aN (iW st.h id (.jC u N2 yc)) j=some b'-> ∃b0,aN st.h j=some b0:=λj b' h=>by
   rw[jq]at h;split at h
   ·rename_i e;subst e;exact⟨_,hg⟩
   ·exact⟨b',h⟩
  obtain⟨Rp,B0⟩:=k i b1 kY;obtain⟨PB,vj⟩:=k j b2 lG;exact hi.heap.inj i j Rp PB l1 l2 B0 vj gn oL lV o7 pN
noncomputable def Du (X:Ctx U El) (o:Oper) (st:St U El) (k:St U El->Option (Fin U El)):Option (Fin U El):=
 match o.op with
 |.makeMap ty none=>match dS X.iH ty,o.dst with
  |some (.jC u),some d=>aU (Nat.blt d X.nt) (k ⟨(d,.mp d)::(st.forget d).t,(d,.jC u [] [])::(st.forget d).h⟩)
  |_,_=>qp X o st k
 |.lookup ty m ix ok=>match dS X.iH ty,bm st.t m,o.dst with
  |some (.jC u),.mp id,some d=>match aN st.h id with
   |some (.jC u' ks cs)=>aU (decide (u'=u)&&(X.E.N3 u'&&Nat.blt d X.nt)) (match ya X.E u' (bm st.t ix)with
    |some x=>match na (X.E.nu u') ks x with
     |some i=>match cs[i]? with
      |some c=>k ⟨(d,bif ok then .bP [c,.bool true]else c)::st.t,st.h⟩
      |none=>none
     |none=>k ⟨(d,bif ok then .bP [.j5,.bool false]else .j5)::st.t,st.h⟩
    |none=>none)
   |_=>none
  |_,_,_=>qp X o st k
 |.mapUpdate ty m ix x=>match dS X.iH ty,bm st.t m,o.dst with
  |some (.jC u),.mp id,none=>match aN st.h id with
   |some (.jC u' ks cs)=>aU (decide (u'=u)&&X.E.N3 u') (match ya X.E u' (bm st.t ix)with
    |some y=>match na (X.E.nu u') ks y with
     |some i=>k ⟨st.t,iW st.h id (.jC u' (ks.set i y) (cs.set i (bm st.t x)))⟩
     |none=>k ⟨st.t,iW st.h id (.jC u' (ks++[y]) (cs++[bm st.t x]))⟩
    |none=>none)
   |_=>none
  |_,_,_=>qp X o st k
 |_=>qp X o st k
theorem I0{av:AV U El}{v:Value}(hi:Inv X B S0 w0 S ρ st a w)(hd:o.dst=some d)(hlt:d<X.nt)(hr:Rel X.E S ρ w av v):Inv X B S0 w0 S ρ ⟨(d,av)::st.t,st.h⟩ (a.put o.dst v) w:=by
 refine⟨by rw[hd];exact hi.defers,by rw[hd];simp[Act.put,hi.size],hi.below,hi.hB,hi.s0,hi.s1,hi.g0,?_,hi.heap⟩
 have:=mW (d:=o.dst) (v:=v) (av:=av) (λe he=>by rw[hi.size];rw[hd]at he;cases he;exact hlt) hi.tmps hr;rw[hd]at this⊢;exact this
theorem Dt{k:St U El->Option (Fin U El)}(hX:bp P X)(hM:kZ P X)(hi:Inv X B S0 w0 S ρ st a w)(hv:Du X o st k=some r){next:Act->World->Prop}{Q:Exit->Act->World->Prop}
 (hn:∀bx a' w',bK X B S0 w0 bx a' w'->k bx=some r->next a' w'):o.wp P a w next Q:=by
 unfold Du at hv;split at hv
 ·rename_i ty ho;split at hv
  ·rename_i u d gM hd;obtain⟨iu,hk⟩:=aQ hv;have rG:=hi.forget hX d;have LO:=DR (P:=P) (X:=X) (a:=a) (d:=d) (u:=u) ho rG.heap.lt (ρ:=ρ.del d) (by simp[eJ.del])
   refine LO next Q λv w' S' ρ' mq hr hN o8 s9=>hn ⟨(d,.mp d)::(st.forget d).t,(d,.jC u [] [])::(st.forget d).h⟩ _ _ ⟨S',ρ',?_⟩ hk
   have:=rG.put (dst:=o.dst) (out:=⟨.mp d,[(d,.jC u [] [])]⟩) (λe he=>by rw[hd]at he;cases he;exact aV iu) mq hr hN (λid b hg=>by
    have:=o8 id b hg;simp only[dP,ho,cz]at this;subst this;simp[eJ.del])
   rw[hd]at this⊢;exact this
  ·exact mX hX hM hi hv hn
 ·rename_i ty m ix ok ho;split at hv
  ·rename_i u id d gM hm hd;split at hv
   ·rename_i u' ks cs hg;obtain⟨iu,gq⟩:=aQ hv;simp only[aj,decide_eq_true_eq]at iu;obtain⟨rfl,h3,h4⟩:=iu;have MW:d<X.nt:=aV h4;obtain⟨vt,e,hu,MV,inf,En,hz⟩:∃v e,P.underlying ty=some (.map (X.E.tid u') v)/\P.underlying v=some (.pointer e)/\∃i,P.info? v=some i/\i.zero=some (.pointer none):=hX.td _ _ gM;have Qy:(zeroValue vt).run P w=.ok (.pointer none) w:=by simp[zeroValue,typeInfo,En,hz]
    split at gq
    ·rename_i x hx;have QQ:Rel X.E S ρ w (bm st.t m) (a.eval m):=Rel.bm λi _=>hi.tmps i
     have Ue:Rel X.E S ρ w (bm st.t ix) (a.eval ix):=Rel.bm λi _=>hi.tmps i
     rw[hm]at QQ;obtain⟨l,eQ,clock,hl,hq,_,_,_,hh,hsz,aA,oG⟩:=Iw QQ hi.heap hg;have nI:=ra hX.u hx Ue;have K:=hX.u.key _ h3
     have fin:∀(av:AV U El) (y:Value) (b:Bool),(Instr.lookup ty (a.eval m) (a.eval ix) ok).run P w=.ok (if ok then .tuple #[y,.bool b]else y) w->Rel X.E S ρ w av y->k ⟨(d,bif ok then .bP [av,.bool b]else av)::st.t,st.h⟩=some r->o.wp P a w next Q:=λav y b de hy hk=>by
      unfold Oper.wp;have:(execOp a.eval o).run P w=.ok (.value (if ok then .tuple #[y,.bool b]else y)) w:=by simp[execOp,ho,de]
      rw[this]
      show next (a.put o.dst _) w
      refine hn _ _ _ ⟨S,ρ,I0 hi hd MW ?_⟩ hk;cases ok with
      |false=>exact hy
      |true=>
       refine .bP _ _ rfl λj c v' hc hv=>?_
       match j,hc,hv with
       |0,hc,hv=>cases hc;cases hv;exact hy
       |1,hc,hv=>cases hc;cases hv;exact .bool b
     rcases B7 K hsz aA oG nI with⟨hf,Ej⟩|⟨j,e,y,c,hf,Ej,he,hy,hc,_,_,QM⟩
     ·rw[Ej]at gq;refine fin .j5 (.pointer none) false ?_ .j5 gq;simp[Instr.lookup,run_underlying hu,hq,MapKept.run_getObj_map hh,K.check _ nI,hf,Qy]
     ·rw[Ej]at gq;simp only[hc]at gq;refine fin c e.val true ?_ QM gq;simp[Instr.lookup,run_underlying hu,hq,MapKept.run_getObj_map hh,K.check _ nI,hf]
    ·cases gq
   ·cases hv
  ·exact mX hX hM hi hv hn
 ·rename_i ty m ix x ho;split at hv
  ·rename_i u id gM hm hd;split at hv
   ·rename_i u' ks cs hg;obtain⟨iu,gq⟩:=aQ hv;simp only[aj,decide_eq_true_eq]at iu;obtain⟨rfl,h3⟩:=iu;obtain⟨vt,e,hu,MV,inf,En,hz⟩:∃v e,P.underlying ty=some (.map (X.E.tid u') v)/\P.underlying v=some (.pointer e)/\∃i,P.info? v=some i/\i.zero=some (.pointer none):=hX.td _ _ gM;split at gq
    ·rename_i y hy;have QQ:Rel X.E S ρ w (bm st.t m) (a.eval m):=Rel.bm λi _=>hi.tmps i
     have Ue:Rel X.E S ρ w (bm st.t ix) (a.eval ix):=Rel.bm λi _=>hi.tmps i
     have CF:Rel X.E S ρ w (bm st.t x) (a.eval x):=Rel.bm λi _=>hi.tmps i
     rw[hm]at QQ;obtain⟨l,eQ,clock,hl,hq,_,_,_,hh,hsz,aA,oG⟩:=Iw QQ hi.heap hg;have nI:=ra hX.u hy Ue;have K:=hX.u.key _ h3;have fin:∀{N2:ah (El u')} {yc:ah (AV U El)} {iY:Array MapEntry} {clock':Nat},(Instr.mapUpdate ty (a.eval m) (a.eval ix) (a.eval x)).run P w=.ok () {w with heap:=w.heap.setIfInBounds l.b (.map iY clock')}->iY.size=N2.length->iY.size=yc.length->
        (∀(i:Nat) (e:MapEntry) (y:El u') (c:AV U El),iY[i]?=some e->N2[i]?=some y->yc[i]?=some c->gz X.E S ρ w u' y e.key/\Rel X.E S ρ w c e.val)->k ⟨st.t,iW st.h id (.jC u' N2 yc)⟩=some r->o.wp P a w next Q:=by
      intro N2 yc iY clock' de hs1 hs2 LN hk;unfold Oper.wp;rw[show(execOp a.eval o)=(do Instr.mapUpdate ty (a.eval m) (a.eval ix) (a.eval x);pure .skip) by simp[execOp,ho]]
      simp only[Sem.run_bind,de,Result.andThen_ok,Sem.run_pure]
      show next (a.put o.dst undef) _
      rw[hd]
      exact hn _ _ _ ⟨S,ρ,hi.Nu (clock':=clock') hg hl hh hs1 hs2 LN⟩ hk
     rcases B7 K hsz aA oG nI with⟨hf,Ej⟩|⟨j,e,y',c,hf,Ej,he,Vq,hc,Xo,WT,QM⟩
     ·rw[Ej]at gq;refine fin (iY:=eQ.push {key:=a.eval ix,val:=a.eval x,born:=clock}) (clock':=clock+1) ?_ (by simp[hsz]) (by simp[aA]) (λi e p c he vV Fm=>?_) gq
      ·simp[Instr.mapUpdate,run_underlying hu,hq,MapKept.run_getObj_map hh,K.check _ nI,hf,MapKept.run_setObj_map _ hh]
      ·rw[dZ]at he;by_cases ku:i=eQ.size
       ·rw[if_pos ku]at he;rw[ku,hsz,br (aY _)]at vV;rw[ku,aA,br (aY _)]at Fm;simp at vV Fm he;subst vV he Fm;exact⟨nI,CF⟩
       ·rw[if_neg ku]at he;have hlt:=(aX.1 he).1;rw[a_ (by rw[<-hsz];exact hlt)]at vV;rw[a_ (by rw[<-aA];exact hlt)]at Fm;exact oG i e p c he vV Fm
     ·rw[Ej]at gq;have mQ:j<eQ.size:=(aX.1 he).1;refine fin (iY:=eQ.modify j λe=>{e with key:=a.eval ix,val:=a.eval x}) (clock':=clock) ?_ (by simp[hsz]) (by simp[aA]) (λi e' p' c' BZ vV Fm=>?_) gq
      ·simp[Instr.mapUpdate,run_underlying hu,hq,MapKept.run_getObj_map hh,K.check _ nI,hf,he,K.stays nI WT Xo,MapKept.run_setObj_map _ hh]
      ·rw[Array.getElem?_modify]at BZ;by_cases H9:j=i
       ·subst H9;rw[if_pos rfl,he]at BZ;rw[fm (by rw[<-hsz];exact mQ)]at vV;rw[fm (by rw[<-aA];exact mQ)]at Fm;cases vV;cases Fm;cases BZ;exact⟨nI,CF⟩
       ·rw[if_neg H9]at BZ;rw[gv H9]at vV Fm;exact oG i e' p' c' BZ vV Fm
    ·cases gq
   ·cases hv
  ·exact mX hX hM hi hv hn
 ·exact mX hX hM hi hv hn
noncomputable def mY (X:Ctx U El) (oa:ah (Option Nat)):ah Oper->St U El->(St U El->Option (Fin U El))->Option (Fin U El)
 |[],st,k=>k st
 |o::os,st,k=>
  match guardOf oa o with
  |none=>jQ o st.t λt=>ox o ⟨t,st.h⟩ λqq=>Du X o (tV o qq) λbx=>mY X oa os bx k
  |some (some g,want)=>tT st.t g want λt b=>
   bif Bool.xor b want then mY X oa os ⟨match o.dst with|some d=>(d,.bP [])::t|none=>t,st.h⟩ k
   else jQ o t λt'=>ox o ⟨t',st.h⟩ λqq=>Du X o (tV o qq) λbx=>mY X oa os bx k
  |some (none,_)=>none
theorem vH{k:St U El->Option (Fin U El)}{ops:Array Oper}{Q:Exit->Act->World->Prop}{tail:ah Nat}{more:ah Oper}(hX:bp P X)(hM:kZ P X)(hN: ∀bx a' w',bK X B S0 w0 bx a' w'->k bx=some r->wpOps P ops Q tail a' w'):
 ∀(os:ah Oper) (j:Nat) (st:St U El) (a:Act) (w:World),ops.toList.drop j=os++more->bK X B S0 w0 st a w->(∀o∈os,∀e,o.dst=some e->e<X.nt)->mY X (ops.toList.map (·.dst)) os st k=some r->wpOps P ops Q (List.range' j os.length++tail) a w:=by
 intro os;induction os with
 |nil=>intro j st a w hd hs _ hv;exact hN st a w hs hv
 |cons o os ih=>
  intro j st a w hd hs jb hv;have ho:ops[j]?=some o:=by
   have:(ops.toList.drop j)[0]?=some o:=by rw[hd];rfl
   rw[cg]at this;simpa using this
  have rZ:ops.toList.drop (j+1)=os++more:=by
   rw[<-List.drop_drop,hd];rfl
  simp only[cI,lJ,eM]
  rw[wpOps_cons]
  unfold wpOp;rw[ho]
  simp only[mY]at hv;have Um:∀e,o.dst=some e->e<X.nt:=jb o ae
  have next:∀bx a' w',bK X B S0 w0 bx a' w'->mY X (ops.toList.map (·.dst)) os bx k=some r->wpOps P ops Q (List.range' (j+1) os.length++tail) a' w':=
   λbx a' w' iM eC=>ih (j+1) bx a' w' rZ iM (λo ho=>jb o (by simp[ho])) eC
  have EK:∀(t:eH U El),bK X B S0 w0 ⟨t,st.h⟩ a w->jQ o t (λt=>ox o ⟨t,st.h⟩ λqq=>Du X o (tV o qq) λbx=>mY X (ops.toList.map (·.dst)) os bx k)=some r->o.wp P a w (wpOps P ops Q (List.range' (j+1) os.length++tail)) Q:=by
   intro t mq hw;obtain⟨t',hk,lS⟩:=l7 hw;have CG:bK X B S0 w0 ⟨t',st.h⟩ a w:=by
    rcases lS with rfl|⟨g,b,hg,rfl⟩
    ·exact mq
    ·exact mq.refine hg
   obtain⟨bA,hs2,yw⟩:=mZ hX CG hk;obtain⟨S,ρ,hi⟩:=uy hX o hs2;exact Dt hX hM hi yw next
  unfold guardOf at hv;cases ug:o.guard with
  |none=>
   rw[ug]at hv;simp only at hv;have hw:Region.wanted o (yielded ops a.tmps)=true:=by simp[Region.wanted,ug]
   simp only[hw,if_true]
   exact .inl (EK st.t hs hv)
  |some jw=>
   obtain⟨gj,want⟩:=jw;rw[ug]at hv;simp only at hv;split at hv
   ·rename_i h;cases h
   ·rename_i g OX heq;simp only[bX,dw]at heq;obtain⟨MX,rfl⟩:=heq;have skip:∀(t:eH U El),bK X B S0 w0 ⟨t,st.h⟩ a w->mY X (ops.toList.map (·.dst)) os ⟨match o.dst with|some d=>(d,.bP [])::t|none=>t,st.h⟩ k=some r->wpOps P ops Q (List.range' (j+1) os.length++tail) (a.put o.dst undef) w:=by
     intro t hs2 eC;refine next _ _ _ ?_ eC
     obtain⟨S,ρ,xV⟩:=hs2;refine⟨S,ρ,by cases o.dst<;>exact xV.defers,by cases o.dst<;>simp[Act.put,xV.size],xV.below,xV.hB,xV.s0,xV.s1,xV.g0,?_,xV.heap⟩
     have:=mW (d:=o.dst) (v:=undef) (av:=AV.bP []) (λe he=>by rw[xV.size];exact Um e he) xV.tmps tE;cases LP:o.dst<;>rw[LP]at this<;>exact this
    rcases rH hv with⟨b,hb,eC⟩|⟨hb,eC⟩
    ·have hs2:=hs.refine hb;obtain⟨S,ρ,hi⟩:=hs;have WG:a.tmps.getD g undef=.bool b:=by
      have:=hi.tmps g;rw[hb]at this;generalize a.tmps.getD g undef=q at this;cases this;rfl
     have hw:=uU ug MX WG;cases hx:Bool.xor b want with
     |true=>
      rw[hx]at eC hw;simp only[cond]at eC;simp only[hw,fc,gY,if_false]
      exact skip _ hs2 eC
     |false=>
      rw[hx]at eC hw;simp only[cond]at eC;simp only[hw,iQ,if_true]
      exact .inl (EK _ hs2 eC)
    ·have WD:a.tmps.getD g undef=.tuple #[]:=by
      obtain⟨S,ρ,hi⟩:=hs;have:=hi.tmps g;rw[hb]at this;exact wU this
     have hw:=ta ug MX WD;have hx:Bool.xor (!want) want=true:=by cases want<;>rfl
     rw[hx]at eC;simp only[cond]at eC;simp only[hw,gY,if_false]
     exact skip _ hs eC
   ·cases hv
theorem Bb{k:St U El->Option (Fin U El)}{ops:Array Oper}{Q:Exit->Act->World->Prop}(hX:bp P X)(hM:kZ P X)(hN:∀bx a' w',bK X B S0 w0 bx a' w'->k bx=some r->Q .normal a' w')
 (st:St U El) (a:Act) (w:World) (hs:bK X B S0 w0 st a w) (hd:∀o∈ops.toList,∀e,o.dst=some e->e<X.nt) (hv:mY X (ops.toList.map (·.dst)) ops.toList st k=some r):wpOps P ops Q (List.range' 0 ops.toList.length) a w:=by
 have:=vH (ops:=ops) (tail:=[]) (more:=[]) hX hM hN ops.toList 0 st a w ae hs hd hv;simpa using this
def Hy(h:bI U El):AV U El->ah Nat
 |.cf j=>match aN h j with|some (.rows _ _)=>[j]|_=>[]
 |_=>[]
def OY(X:Ctx U El)(o:Oper)(t:eH U El)(h:bI U El):ah Nat:=
 match o.op with
 |.store _ p _=>match bm t p with
  |.ptr j _=>[j]
  |.row j _ _=>[j]
  |_=>[]
 |.mapUpdate _ m _ _=>match bm t m with
  |.mp j=>[j]
  |_=>[]
 |.buildSlice _ _ ps=>ps.toList.flatMap λp=>match bm t p.2 with
  |.agg cs=>cs.flatMap (Hy h)
  |v=>Hy h v
 |.call ⟨.builtin .append,aaa,_⟩=>match aaa.toList with
  |s::_=>match bm t s with
   |.cf j=>[j]
   |_=>[]
  |[]=>[]
 |.call ⟨.value f,aaa,_⟩=>match bm t f with
  |.fn g first mO=>match X.wg g with
   |some _=>reach h 40 0 (AV.HP.sU (first++aaa.toList.map (bm t)++mO) [])
   |none=>[]
  |_=>[]
 |_=>[]
def Mn(j:Nat):ah Nat->ah (AV U El)
 |[]=>[]
 |id::ids=>.agg [.int .i64 j,.int .i64 id]::Mn j ids
def KS:ah (AV U El)->ah (Nat×Nat)
 |.agg [.int _ j,.int _ id]::l=>(j.toNat,id.toNat)::KS l
 |_=>[]
def Kj(X:Ctx U El)(oa:ah (Option Nat)):ah Oper->Nat->eH U El->bI U El->ah (AV U El)->Option (Fin U El)
 |[],_,_,_,acc=>some (.bP acc,[])
 |o::os,j,t,h,acc=>
  let go:=λ(t':eH U El)=>CS X o (λ_=>true) (OY X o t' h) t' h λt2 h2=>Kj X oa os (j+1) t2 h2 (acc++Mn j (OY X o t' h))
  match guardOf oa o with
  |none=>jQ o t go
  |some (some g,want)=>tT t g want λt1 b=>
   bif Bool.xor b want then Kj X oa os (j+1) (match o.dst with|some d=>(d,.bP [])::t1|none=>t1) h acc
   else jQ o t1 go
  |some (none,_)=>none
def Ng:Option (Fin U El)->ah (Nat×Nat)
 |some (.bP l,_)=>KS l
 |_=>[]
def Dm(nt:Nat)(t:eH U El):eH U El:=vS t (List.range nt)
def HT(tidy:St U El->St U El)(body:St U El->bn U El->Option (Fin U El)):Nat->bn U El
 |0,_=>none
 |n+1,st=>body (tidy st) (HT tidy body n)
noncomputable def Bt (X:Ctx U El):Code->St U El->bn U El->(Nat->bn U El)->bn U El->Option (Fin U El)
 |.skip,st,K,_,_=>K st
 |.region _ ops dr,st,K,_,_=>
  bif dr then
   let Ns:=Ah ops.toList st
   let ws:=Ng (Kj X (ops.toList.map (·.dst)) ops.toList 0 (Ns.fD (kW ops.toList)).t (Ns.fD (kW ops.toList)).h [])
   bif qz X.nt ops.toList ws then jK X (ops.toList.map (·.dst)) (zb (o_ ops.toList []) (qi ops.toList ws)) ws ops.toList 0 (Ns.fD (kW ops.toList)).t (Ns.fD (kW ops.toList)).h K
   else none
  else aU (ops.toList.all λo=>match o.dst with|some d=>Nat.blt d X.nt|none=>true) (mY X (ops.toList.map (·.dst)) ops.toList st K)
 |.seq a b,st,K,E,R=>Bt X a st (λbx=>Bt X b bx K E R) E R
 |.cond c a b,st,K,E,R=>match c with
  |.tmp g=>branch st.t g λt bv=>bif bv then Bt X a ⟨t,st.h⟩ K E R else Bt X b ⟨t,st.h⟩ K E R
  |_=>none
 |.block id b,st,K,E,R=>Bt X b st K (cu id K E) R
 |.loop b,st,_,E,R=>HT (λst=>⟨Dm X.nt st.t,st.h⟩) (λbx K'=>Bt X b bx K' E R) X.fuel st
 |.exit id,st,_,E,_=>E id st
 |.ret,st,_,_,R=>R st
 |_,_,_,_,_=>none
theorem Fy(t:eH U El):∀(l:ah Nat) (i:Nat),cC (vS t l) i=if i∈l then cC t i else .any:=by
 intro l;induction l with
 |nil=>intro i;simp[vS,cC]
 |cons s l ih=>
  intro i;simp only[vS,cC]
  by_cases e:s=i
  ·subst e;rw[aG];simp
  ·rw[aO e,cond_false,ih]
   have:¬i=s:=λh=>e h.symm
   simp[this]
theorem Fx(nt:Nat)(hs:bK X B S0 w0 st a w):bK X B S0 w0 ⟨Dm nt st.t,st.h⟩ a w:=by
 obtain⟨S,ρ,hi⟩:=hs;refine⟨S,ρ,hi.defers,hi.size,hi.below,hi.hB,hi.s0,hi.s1,hi.g0,λi=>?_,hi.heap⟩
 show Rel X.E S ρ w (cC (Dm nt st.t) i) _;unfold Dm;rw[Fy]
 split
 ·exact hi.tmps i
 ·exact .any _
theorem xj(hX:bp P X)(hM:kZ P X): ∀(c:Code) (st:St U El) (K:bn U El) (E:Nat->bn U El) (R:bn U El) (a:Act) (w:World) (Q:Exit->Act->World->Prop),
 (∀bx a' w',bK X B S0 w0 bx a' w'->K bx=some r->Q .normal a' w')->(∀i bx a' w',bK X B S0 w0 bx a' w'->E i bx=some r->Q (.exit i) a' w')->(∀bx a' w',bK X B S0 w0 bx a' w'->R bx=some r->Q .ret a' w')->
 bK X B S0 w0 st a w->Bt X c st K E R=some r->c.wp P Q a w:=by
 intro c;induction c with
 |skip=>intro st K E R a w Q hK hE hR hs hv;exact wp_skip (hK st a w hs hv)
 |region id ops dr=>
  intro st K E R a w Q hK hE hR hs hv;simp only[Bt]at hv;cases dr with
  |true=>
   simp only[cond]at hv;split at hv
   ·rename_i hok;exact Ao hX (Ag hX ops.toList st hs) hok hK hv
   ·cases hv
  |false=>
   simp only[cond]at hv;obtain⟨h1,h2⟩:=aQ hv;refine wp_region ?_;have:=Bb (ops:=ops) hX hM hK st a w hs (λo ho e he=>by
    have:=aP.1 h1 o ho;rw[he]at this;exact aV this) h2
   rwa [cW,<-k_]at this
 |seq x y Pk MT=>
  intro st K E R a w Q hK hE hR hs hv;simp only[Bt]at hv;exact wp_seq (Pk st _ E R a w _ (λbx a' w' iM eC=>MT bx K E R a' w' Q hK hE hR iM eC) (λi bx a' w' iM eC=>hE i bx a' w' iM eC) (λbx a' w' iM eC=>hR bx a' w' iM eC) hs hv)
 |cond c x y Pk MT=>
  intro st K E R a w Q hK hE hR hs hv;simp only[Bt]at hv;cases c with
  |tmp g=>
   obtain⟨b,hb,eC⟩:=tr hv;have hs2:=hs.refine hb;have sd:a.eval (.tmp g)=.bool b:=by
    obtain⟨S,ρ,hi⟩:=hs;have:=hi.tmps g;rw[hb]at this;show a.tmps.getD g undef=_;generalize a.tmps.getD g undef=q at this;cases this;rfl
   refine wp_cond sd ?_;cases b with
   |true=>exact Pk _ K E R a w Q hK hE hR hs2 eC
   |false=>exact MT _ K E R a w Q hK hE hR hs2 eC
  |_=>cases hv
 |block id b ih=>
  intro st K E R a w Q hK hE hR hs hv;simp only[Bt]at hv;refine wp_block (ih st K _ R a w _ (λbx a' w' iM eC=>hK bx a' w' iM eC) (λi bx a' w' iM eC=>?_) (λbx a' w' iM eC=>hR bx a' w' iM eC) hs hv)
  simp only[Exit.inBlock]
  unfold cu at eC;by_cases e:i=id
  ·subst e;rw[aG]at eC;rw[if_pos rfl]
   exact hK bx a' w' iM eC
  ·rw[aO e]at eC;rw[if_neg e]
   exact hE i bx a' w' iM eC
 |loop b ih=>
  intro st K E R a w Q hK hE hR hs hv;simp only[Bt]at hv;refine wp_loop_rounds X.fuel ?_
  have key:∀(m:Nat) (st:St U El) (a:Act) (w:World),bK X B S0 w0 st a w->HT (λst=>⟨Dm X.nt st.t,st.h⟩) (λbx K'=>Bt X b bx K' E R) m st=some r->Code.rounds P b Q m a w:=by
   intro m;induction m with
   |zero=>intro st a w _ hv;cases hv
   |succ m TE=>
    intro st a w hs hv;simp only[HT]at hv;exact ih _ _ E R a w _ (λbx a' w' iM eC=>TE bx a' w' iM eC) (λi bx a' w' iM eC=>hE i bx a' w' iM eC) (λbx a' w' iM eC=>hR bx a' w' iM eC) (Fx _ hs) hv
  exact key X.fuel st a w hs hv
 |exit id=>intro st K E R a w Q hK hE hR hs hv;exact wp_exit (hE id st a w hs hv)
 |ret=>intro st K E R a w Q hK hE hR hs hv;exact wp_ret (hR st a w hs hv)
 |_=>intro st K E R a w Q hK hE hR hs hv;simp[Bt]at hv
def xu(P:Program)(g n:Nat):Prop:=(∀aaa w,(callFunc g aaa).run P w=.ok (.enter g aaa) w)/\∀(vs:Array Value) (w:World),vs.size=n->CallsD P g vs .returning w λe u' w'=>(∃v,e=.returned v)/\u'=.returning/\w'=w
def w9(ops:ah Oper):Option (ah Oper×Operand):=
 match ops.reverse with
 |[]=>none
 |o::rest=>match o.op,o.guard,o.dst with
  |.defer ⟨.value f,aaa,_⟩,none,none=>bif aaa.isEmpty then some (rest.reverse,f)else none
  |_,_,_=>none
theorem zK{ops:ah Oper}{pre:ah Oper}{f:Operand}(h:w9 ops=some (pre,f)): ∃o ts,ops=pre++[o]/\o.op=.defer ⟨.value f,#[],ts⟩/\o.guard=none/\o.dst=none:=by
 unfold w9 at h;split at h
 ·cases h
 ·rename_i o rest hr;split at h
  ·rename_i f' aaa ts ho hg hd;cases he:aaa.isEmpty with
   |false=>rw[he]at h;cases h
   |true=>
    rw[he,cond_true]at h;cases h;have:aaa=#[]:=jP (by simpa using he)
    subst this;refine⟨o,ts,?_,ho,hg,hd⟩
    have:=congrArg List.reverse hr;simpa using this
  ·cases h
def rz:ah (Nat×Nat)->AV U El->Bool
 |[],_=>false
 |(g,n)::l,.fn f fs cs=>(Nat.beq f g&&Nat.beq (fs.length+cs.length) n)||rz l (.fn f fs cs)
 |_::l,a=>rz l a
noncomputable def JO (X:Ctx U El) (qd:ah (Nat×Nat)) (K:bn U El):Code->St U El->Option (Fin U El)
 |.seq a b,st=>match a with
  |.region _ ops dr=>match w9 ops.toList with
   |some (pre,f)=>aU (!dr&&pre.all λo=>match o.dst with|some d=>Nat.blt d X.nt|none=>true) (mY X (ops.toList.map (·.dst)) pre st λbx=>aU (rz qd (bm bx.t f)) (Bt X b bx K (λ_ _=>none) K))
   |none=>Bt X a st (λbx=>JO X qd K b bx) (λ_ _=>none) K
  |_=>Bt X a st (λbx=>JO X qd K b bx) (λ_ _=>none) K
 |c,st=>Bt X c st K (λ_ _=>none) K
theorem Cn: ∀{qd:ah (Nat×Nat)} {a:AV U El},rz qd a=true-> ∃f fs cs,a=.fn f fs cs/\(f,fs.length+cs.length)∈qd:=by
 intro qd;induction qd with
 |nil=>intro a h;cases h
 |cons p l ih=>
  intro a h;obtain⟨g,n⟩:=p;cases a with
  |fn f fs cs=>
   simp only[rz,eX,aj]at h;rcases h with⟨h1,h2⟩|h
   ·exact⟨f,fs,cs,rfl,by rw[al h1,al h2];simp⟩
   ·obtain⟨f',Yc,yc,e,hm⟩:=ih h;exact⟨f',Yc,yc,e,by simp[hm]⟩
  |_=>simp only[rz]at h;obtain⟨f',Yc,yc,e,hm⟩:=ih h;exact⟨f',Yc,yc,e,by simp[hm]⟩
theorem GS{qd:ah (Nat×Nat)}{K:bn U El}{Q:Exit->Act->World->Prop}(hX:bp P X)(hM:kZ P X)(hq: ∀p∈qd,xu P p.1 p.2)
 (hK:∀(D:ah Deferred) bx a' w',(D=[]\/∃g n vf vc,xu P g n/\vf.size+vc.size=n/\D=[{target:=.fn (.func g) vc,args:=vf}])->bK X ⟨B.own,B.jZ,D⟩ S0 w0 bx a' w'->K bx=some r->Q .normal a' w'/\Q .ret a' w'):
 ∀(c:Code) (st:St U El) (a:Act) (w:World),bK X ⟨B.own,B.jZ,[]⟩ S0 w0 st a w->JO X qd K c st=some r->c.wp P Q a w:=by
 have plain:∀(c:Code) (st:St U El) (a:Act) (w:World),bK X ⟨B.own,B.jZ,[]⟩ S0 w0 st a w->Bt X c st K (λ_ _=>none) K=some r->c.wp P Q a w:=λc st a w hs hv=>
  xj hX hM c st _ _ _ a w Q (λbx a' w' iM hk=>(hK [] bx a' w' (.inl rfl) iM hk).1) (λ_ _ _ _ _ h=>by cases h) (λbx a' w' iM hk=>(hK [] bx a' w' (.inl rfl) iM hk).2) hs hv
 intro c;induction c with
 |seq x y Pk MT=>
  intro st a w hs hv;have gen:Bt X x st (λbx=>JO X qd K y bx) (λ_ _=>none) K=some r->(Code.seq x y).wp P Q a w:=λhv=>
   wp_seq (xj hX hM x st _ _ _ a w _ (λbx a' w' iM hk=>MT bx a' w' iM hk) (λ_ _ _ _ _ h=>by cases h) (λbx a' w' iM hk=>(hK [] bx a' w' (.inl rfl) iM hk).2) hs hv)
  simp only[JO]at hv;split at hv
  ·rename_i id ops dr;split at hv
   ·rename_i pre f hl;obtain⟨iu,qv⟩:=aQ hv;clear hv gen;simp only[aj,cF]at iu;obtain⟨XA,jb⟩:=iu;subst XA;obtain⟨o,ts,vW,z_,ug,Um⟩:=zK hl;refine wp_seq (wp_region ?_)
    have hsz:ops.size=pre.length+1:=by rw[<-cW,vW];simp
    have xH:ops[pre.length]?=some o:=by rw[<-bO,vW];simp
    have key:=vH (P:=P) (X:=X) (B:=⟨B.own,B.jZ,[]⟩) (S0:=S0) (w0:=w0) (r:=r) (ops:=ops) (Q:=Exit.then (y.wp P Q) Q) (tail:=[pre.length]) (more:=[o]) (k:=λbx=>aU (rz qd (bm bx.t f)) (Bt X y bx K (λ_ _=>none) K)) hX hM (λbx a' w' iM hk=>by
     obtain⟨δ,hk⟩:=aQ hk;obtain⟨g,fs,cs,QY,nV⟩:=Cn δ;obtain⟨S,ρ,hi⟩:=iM;have hf:Rel X.E S ρ w' (bm bx.t f) (a'.eval f):=Rel.bm λi _=>hi.tmps i
     rw[QY]at hf;generalize _9:a'.eval f=q at hf;cases hf with
     |fn _ _ _ vf vc sg tR _ _=>
      rw[wpOps_cons]
      unfold wpOp;rw[xH]
      have hw:Region.wanted o (yielded ops a'.tmps)=true:=by simp[Region.wanted,ug]
      simp only[hw,if_true]
      refine .inl ?_;unfold Oper.wp;have:(execOp a'.eval o).run P w'=.ok (.defer {target:=.fn (.func g) vc,args:=vf}) w':=by
       simp[execOp,z_,resolve,Deferred.ofValue,_9]
      rw[this,Oper.upon_defer,Um]
      show y.wp P Q _ w';have MY:a'.defers=[]:=hi.defers;refine xj (B:=⟨B.own,B.jZ,[{target:=.fn (.func g) vc,args:=vf}]⟩) hX hM y bx _ _ _ _ w' Q (λbA a2 w2 hs2 yw=>(hK _ bA a2 w2 (.inr ⟨g,_,vf,vc,hq _ nV,by rw[sg,tR],rfl⟩) hs2 yw).1) (λ_ _ _ _ _ h=>by cases h) (λbA a2 w2 hs2 yw=>(hK _ bA a2 w2 (.inr ⟨g,_,vf,vc,hq _ nV,by rw[sg,tR],rfl⟩) hs2 yw).2) ⟨S,ρ,?_⟩ hk;exact⟨by show _::a'.defers=_;rw[MY],hi.size,hi.below.mono λ_ h=>h,hi.hB,hi.s0,hi.s1,λw2 h2=>hi.g0 w2 (h2.mono λ_ h=>h),hi.tmps,hi.heap.RV (B:=⟨B.own,B.jZ,[]⟩).df _⟩)
     pre 0 st a w (by simpa using vW) hs (λo' Fi e he=>by
      have:=aP.1 jb o' Fi;rw[he]at this;exact aV this) qv
    rw[hsz,List.range_succ,k_]
    exact key
   ·exact gen hv
  ·exact gen hv
 |_=>intro st a w hs hv;exact plain _ st a w hs hv
def canon:ah Nat->Nat->St U El->St U El
 |[],_,st=>st
 |id::ids,n,st=>bif Nat.beq id n then canon ids (n+1) st else canon ids (n+1) ((st.forget n).rename id n)
theorem EU(hX:bp P X):∀(ids:ah Nat) (n:Nat) (st:St U El),bK X B S0 w0 st a w->bK X B S0 w0 (canon ids n st) a w:=by
 intro ids;induction ids with
 |nil=>intro n st hs;exact hs
 |cons id ids ih=>
  intro n st hs;unfold canon;by_cases e:id=n
  ·rw[show Nat.beq id n=true by rw[e];exact aG n,cond_true];exact ih _ st hs
  ·rw[aO e,cond_false]
   obtain⟨S,ρ,hi⟩:=hs;obtain⟨ρ',ku⟩:=(hi.forget hX n).rename hX e (by simp[eJ.del])
   exact ih _ _ ⟨S,ρ',ku⟩
def EV(res:ah Nat)(st:St U El):St U El:=
 let qq:=freshen (λj=>Nat.blt j 4) (st.h.map (·.1)) st
 let ids:=reach qq.h 200 0 (AV.HP.sU (res.map (cC qq.t)) [])
 bif Nat.ble ids.length 4 then(let bA:=canon ids 0 qq;⟨bA.t,rV bA.h (List.range ids.length)⟩)else⟨qq.t,rV qq.h ids⟩
def PU(res o8:ah Nat)(st:St U El):Option (Fin U El):=bif o8.isEmpty then qH res (EV res st)else qH res ⟨st.t,rV st.h (reach st.h 200 0 (AV.HP.sU (res.map (cC st.t)) o8))⟩
def Cz:ah Nat->St U El->(St U El->Option (Fin U El))->Option (Fin U El)
 |[],st,k=>k st
 |s::l,st,k=>nQ st s λbx=>Cz l bx k
theorem Bj(hX:bp P X):∀(l:ah Nat) (st:St U El) (k:St U El->Option (Fin U El)),bK X B S0 w0 st a w->Cz l st k=some r->∃bx,bK X B S0 w0 bx a w/\k bx=some r:=by
 intro l;induction l with
 |nil=>intro st k hs hv;exact⟨st,hs,hv⟩
 |cons s l ih=>
  intro st k hs hv;obtain⟨qq,h1,gq⟩:=kE hX hs hv;exact ih qq k h1 gq
noncomputable def PT (X:Ctx U El) (qd:ah (Nat×Nat)) (body:Code) (lR:ah (Nat×TypeId)) (res shr:ah Nat) (hs:bI U El) (args:ah (AV U El)):Option (Fin U El):=Cz shr ⟨mL args 0,hs⟩ (JO X qd (λst=>fz X X.nt lR X.nt st (PU res (hs.map (·.1)))) body)
theorem s7(l:ah Nat)(hs:bK X B S0 w0 st a w):bK X B S0 w0 ⟨st.t,rV st.h l⟩ a w:=by obtain⟨S,ρ,hi⟩:=hs;exact⟨S,ρ,hi.defers,hi.size,hi.below,hi.hB,hi.s0,hi.s1,hi.g0,hi.tmps,⟨λj b hg=>hi.heap.get j b (pd st.h _ j b hg),λi j b b' l l' kY lG=>hi.heap.inj i j b b' l l' (pd st.h _ i b kY) (pd st.h _ j b' lG),hi.heap.lt⟩⟩
theorem FN{res o8:ah Nat}{r:Fin U El}(hX:bp P X)(hs:bK X B S0 w0 st a w)(h:PU res o8 st=some r):∃bx,bK X B S0 w0 bx a w/\qH res bx=some r:=by
 unfold PU at h;cases he:o8.isEmpty with
 |true=>
  rw[he,cond_true]at h;refine⟨_,?_,h⟩
  unfold EV;have h1:=ux hX (λj=>Nat.blt j 4) (st.h.map (·.1)) st hs;dsimp only;generalize freshen (λj=>Nat.blt j 4) (st.h.map (·.1)) st=qq at h1;generalize reach qq.h 200 0 (AV.HP.sU (res.map (cC qq.t)) [])=ids;cases Nat.ble ids.length 4
  ·exact s7 _ h1
  ·exact s7 _ (EU hX ids 0 qq h1)
 |false=>
  rw[he,cond_false]at h;exact⟨_,s7 _ hs,h⟩
theorem FH{f:FuncId}{fn:Func}{body:Code}{lR:ah (Nat×TypeId)}{res shr:ah Nat}{args:ah (AV U El)}{hs h:bI U El}{v:AV U El}{qd:ah (Nat×Nat)}(hX:bp P X)(hM:kZ P X)(hq:∀p∈qd,xu P p.1 p.2)
 (hf:P.funcs[f]?=some fn) (hb:fn.body=some body) (wD:fn.ntmps=X.nt) (fJ:fn.results=(res.map (xQ X.nt lR)).toArray) (qT:args.length<=X.nt)
 (hv:PT X qd body lR res shr hs args=some (v,h)):lT P X.E f args hs v h:=by
 refine lT.DZ λB S ρ w vs MY hB hG hH hrel=>?_
 obtain⟨ow,pn,df⟩:=B;obtain rfl:df=[]:=MY;obtain⟨B,UA⟩:∃B:Bd,B=⟨ow,pn,[]⟩:=⟨_,rfl⟩
 have MY:B.df=[]:=by rw[UA]
 rw[<-UA]at hG hH;rw[<-UA]
 have hB':∀k,w.heap.size<=k->B.own k:=by rw[UA];exact hB
 refine calls_of_wp_defers hf hb ?_;have hsz:(vs++Array.replicate (fn.ntmps-vs.size) undef).size=X.nt:=by
  have:=hrel.1;simp;omega
 have h0:bK X B S w ⟨mL args 0,hs⟩ {tmps:=vs++Array.replicate (fn.ntmps-vs.size) undef,defers:=[]} w:=by
  refine⟨S,ρ,MY.symm,hsz,Fr.refl _ _,hB',λ_ h=>h,λ_ h=>.inl h,hG,λi=>?_,hH⟩
  show Rel X.E S _ w (cC (mL args 0) i) _;rw[B6]
  simp only[eS,if_true,hJ]
  cases hc:args[i]? with
  |none=>exact .any _
  |some c=>
   have hi:i<vs.size:=by rw[hrel.1];exact(ak.1 hc).1
   simp only[eL]
   rw[aH,gF hi,aC hi]
   exact hrel.2 i c _ hc (aC hi)
 have Lx:∀(D:ah Deferred) (X':Ctx U El) (bx:St U El) (a':Act) (w':World),X'.E=X.E->bK X' ⟨B.own,B.jZ,D⟩ S w bx a' w'->qH res bx=some (v,h)->∃v' S' ρ',Ending.returned (wT a'.tmps res)=.returned v'/\Fr B w w'/\(∀b,S b->S' b)/\(∀b,S' b->S b\/B.own b)/\fa X.E S' ρ' w' B h/\Rel X.E S' ρ' w' v v':=by
  rintro D X' bx a' w' hE ⟨S',ρ',hi⟩ hr;have Dc:=hi.heap;have J0:=hi.tmps;rw[hE]at Dc J0;refine⟨_,S',ρ',rfl,hi.below.mono λ_ h=>h,hi.s0,hi.s1,?_⟩
  unfold qH at hr;match res with
  |[t]=>
   simp only[bX,dw]at hr;obtain⟨rfl,rfl⟩:=hr;exact⟨Dc.RV,J0 t⟩
  |[]=>
   simp only[bX,dw]at hr;obtain⟨rfl,rfl⟩:=hr;exact⟨Dc.RV,.bP _ _ rfl ae⟩
  |t::u::l=>
   simp only[bX,dw]at hr;obtain⟨rfl,rfl⟩:=hr;refine⟨Dc.RV,.bP _ _ ae λi c v hc hv=>?_⟩
   simp only[bo,aJ]at hc;obtain⟨q,hq,rfl⟩:=hc;simp only[cZ,bo,hq,eK,bX]at hv;subst hv;exact J0 q
 have h0':bK X ⟨B.own,B.jZ,[]⟩ S w ⟨mL args 0,hs⟩ {tmps:=vs++Array.replicate (fn.ntmps-vs.size) undef,defers:=[]} w:=by
  have e:B=⟨B.own,B.jZ,[]⟩:=by rw[UA]
  rw[<-e];exact h0
 obtain⟨stS,_5,_Z⟩:=Bj (r:=(v,h)) hX shr _ _ h0' hv;refine GS (B:=B) (r:=(v,h)) hX hM hq (λD bx a' w' hD iM hk=>?_) body _ _ _ _5 _Z;have key:∃x,(results fn a'.tmps).run P w'=.ok x w'/\∃v' S' ρ',Ending.returned x=.returned v'/\Fr B w w'/\(∀b,S b->S' b)/\(∀b,S' b->S b\/B.own b)/\fa X.E S' ρ' w' B h/\Rel X.E S' ρ' w' v v':=by
  obtain⟨S1,nM,hi⟩:=iM;obtain⟨sw,bA,l1,l2,l3,l4,l5⟩:=om lR X bx a' hX hi (aY _) hk;obtain⟨He,n1,n2⟩:=FN l4 ⟨S1,nM,l5⟩ l2;exact⟨_,oZ fJ hi.size l1 l3,Lx D {X with nt:=X.nt+lR.length} He _ w' rfl n1 n2⟩
 have lv:Leaves P fn a'.tmps (λe w'=>∃v' S' ρ',e=.returned v'/\Fr B w w'/\(∀b,S b->S' b)/\(∀b,S' b->S b\/B.own b)/\fa X.E S' ρ' w' B h/\Rel X.E S' ρ' w' v v') a'.defers .returning w':=by
  obtain⟨S1,nM,hi⟩:=iM;rw[hi.defers]
  show Leaves P fn a'.tmps _ D .returning w';rcases hD with rfl|⟨g,n,vf,vc,Vr,Lr,rfl⟩
  ·exact key
  ·refine leaves_cons ae (f:=g) (args:=vf++vc) (by simp[invoke,Vr.1]) ((Vr.2 (vf++vc) w' (by simpa using Lr)).mono ?_)
   rintro e u' w2 ⟨⟨v2,rfl⟩,rfl,rfl⟩
   exact key
 exact⟨lv,lv⟩
structure OU where
 body:Code
 nt:Nat
 lR:List (Nat×TypeId)
 res:List Nat
 shr:List Nat
 pl:Bool
def Fh(P:Program)(f:FuncId)(i:OU):Prop:=(∀aaa w,(callFunc f aaa).run P w=.ok (.enter f aaa) w)/\∃fn,P.funcs[f]?=some fn/\fn.body=some i.body/\fn.ntmps=i.nt/\fn.results=(i.res.map (xQ i.nt i.lR)).toArray
def Ai:ah (FuncId×OU)->FuncId->Option OU
 |[],_=>none
 |(g,i)::l,f=>bif Nat.beq g f then some i else Ai l f
theorem JA{P:Program}:∀{l:ah (FuncId×OU)},(∀p∈l,Fh P p.1 p.2)->∀{f i},Ai l f=some i->Fh P f i:=by
 intro l;induction l with
 |nil=>intro _ f i h;cases h
 |cons p l ih=>
  intro hl f i h;obtain⟨g,j⟩:=p;simp only[Ai]at h;by_cases e:g=f
  ·subst e;rw[aG]at h;cases h;exact hl (g,i) ae
  ·rw[aO e]at h;exact ih (λp hp=>hl p (by simp[hp])) h
def Jh(l:ah (FuncId×OU))(f:FuncId):Bool:=match Ai l f with|some i=>i.pl|none=>false
def oy:bI U El->Bool
 |[]=>true
 |(j,_)::h=>Nat.blt j 4&&oy h
noncomputable def inl (X0:Ctx U El) (qd:ah (Nat×Nat)) (lq:ah (FuncId×OU)):Nat->FuncId->Option (wF U El)
 |0,_=>none
 |n+1,f=>match Ai lq f with
  |none=>none
  |some i=>some λargs hs k=>
   let X:Ctx U El:={X0 with
    nt:=i.nt
    spec:=λg vs k=>match inl X0 qd lq n g with
     |some sp=>(match sp vs [] (λv h=>some (v,h))with
      |some p=>aU (oy p.2) (k p.1 p.2)
      |none=>none)
     |none=>X0.spec g vs k
    wg:=λg=>bif Jh lq g then X0.wg g else(match inl X0 qd lq n g with|some sp=>some sp|none=>X0.wg g)
    mspec:=λg=>bif Jh lq g then X0.mspec g else(match inl X0 qd lq n g with|some sp=>some (sY sp)|none=>X0.mspec g)}
   bif Nat.ble args.length i.nt then(match PT X qd i.body i.lR i.res i.shr hs args with
    |some p=>k p.1 p.2
    |none=>none)
   else none
theorem zE{f:FuncId}{args:ah (AV U El)}{v:AV U El}{h:bI U El}{E:fZ U El}(hu:oJ P E)(hc: ∀aaa w,(callFunc f aaa).run P w=.ok (.enter f aaa) w)(hm:lT P E f args [] v h)(ho:oy h=true):cV P E f args v h:=by
 refine⟨hc,λid b hg=>?_,λS w vs hlt hG hr=>?_⟩
 ·have: ∀(l:bI U El),oy l=true->aN l id=some b->id<4:=by
   intro l;induction l with
   |nil=>intro _ h;cases h
   |cons p l ih=>
    intro h1 h2;obtain⟨i,c⟩:=p;simp only[oy,aj]at h1;simp only[aN]at h2;by_cases e:i=id
    ·subst e;exact aV h1.1
    ·rw[aO e]at h2;exact ih h1.2 h2
  exact this h ho hg
 ·refine(hm (From w) S (λ_=>none) w vs (λ_ h=>h) (λw' hf=>hu.Q7 _ _ hG hf.below) (fa.nil hlt _) hr).mono ?_;rintro e w' ⟨v',S',ρ',rfl,h1,h2,h3,h4,h5⟩
  exact⟨v',S',ρ',rfl,⟨h1,h2,h3,λ_ _ h=>(by cases h),hlt⟩,h4,h5⟩
noncomputable def Wi (a b:wF U El):wF U El:=λargs hs k=>match hs with
 |[]=>a args [] k
 |h::t=>b args (h::t) k
theorem P4{f:FuncId}{E:fZ U El}{a b:wF U El}(ha:ql P E f a)(hb:ql P E f b):ql P E f (Wi a b):=⟨ha.1,λargs hs k r h=>by
 unfold Wi at h;split at h
 ·exact ha.2 _ _ _ _ h
 ·exact hb.2 _ _ _ _ h⟩
theorem Qq{X0:Ctx U El}{qd:ah (Nat×Nat)}{lq:ah (FuncId×OU)}(hq: ∀p∈qd,xu P p.1 p.2)(hX:bp P X0)(hM: ∀n,kZ P {X0 with nt:=n})(ht: ∀p∈lq,Fh P p.1 p.2)(VH: ∀(X:Ctx U El),X.E=X0.E->X.iH=X0.iH->bp P X-> ∀g sp,X0.mspec g=some sp->rj P X g sp):
 ∀(n:Nat) (f:FuncId) (sp:wF U El),inl X0 qd lq n f=some sp->wB P X0.E f sp:=by
 intro n;induction n with
 |zero=>intro f sp h;cases h
 |succ n ih=>
  intro f sp h;simp only[inl]at h;split at h
  ·cases h
  ·rename_i i hi;obtain⟨kH,fn,hf,hb,wD,fJ⟩:=JA ht hi;cases h
   obtain⟨X,M0⟩:∃X:Ctx U El,X={X0 with
    nt:=i.nt
    spec:=λg vs k=>match inl X0 qd lq n g with
     |some sp=>(match sp vs [] (λv h=>some (v,h))with
      |some p=>aU (oy p.2) (k p.1 p.2)
      |none=>none)
     |none=>X0.spec g vs k
    wg:=λg=>bif Jh lq g then X0.wg g else(match inl X0 qd lq n g with|some sp=>some sp|none=>X0.wg g)
    mspec:=λg=>bif Jh lq g then X0.mspec g else(match inl X0 qd lq n g with|some sp=>some (sY sp)|none=>X0.mspec g)}:=⟨_,rfl⟩
   have hE:X.E=X0.E:=by rw[M0]
   have VD:bp P X:=by
    rw[M0]
    refine⟨hX.mixed,hX.u,hX.td,hX.z,hX.one,hX.eq,λg vs=>?_,λg sp hg=>?_,λg vs k r hv=>?_⟩
    ·simp only;cases hg:inl X0 qd lq n g with
     |none=>exact hX.pe g vs
     |some sp=>
      simp only;cases hs:sp vs [] (λv h=>some (v,h))with
      |none=>exact⟨none,λ_=>rfl⟩
      |some p=>
       cases hc:oy p.2 with
       |false=>exact⟨none,λk=>by simp[hc,aU]⟩
       |true=>exact⟨some p,λk=>by simp[hc,aU]⟩
    ·simp only at hg;cases hp:Jh lq g with
     |true=>rw[hp]at hg;exact hX.VS g sp hg
     |false=>
     rw[hp,cond_false]at hg;cases qQ:inl X0 qd lq n g with
     |none=>rw[qQ]at hg;exact hX.VS g sp hg
     |some YC=>rw[qQ]at hg;cases hg;exact ih g _ qQ
    ·simp only at hv;cases qQ:inl X0 qd lq n g with
     |none=>rw[qQ]at hv;exact hX.spec g vs k r hv
     |some YC=>
      rw[qQ]at hv;simp only at hv;split at hv
      ·rename_i p hp;obtain⟨ho,hk⟩:=aQ hv;obtain⟨v,hc,hm,e⟩:=(ih g _ qQ).1.2 _ _ _ _ hp;cases e;exact⟨_,_,.inl (zE hX.u (ih g _ qQ).1.1 hm ho),hk⟩
      ·cases hv
   have hMk:kZ P X:=λg sp hg=>by
    have Er:=hg;rw[M0]at Er;simp only at Er;cases hp:Jh lq g with
    |true=>rw[hp]at Er;exact VH X hE (by rw[M0]) VD g sp Er
    |false=>
    rw[hp,cond_false]at Er;cases qQ:inl X0 qd lq n g with
    |none=>rw[qQ]at Er;exact VH X hE (by rw[M0]) VD g sp Er
    |some YC=>
     rw[qQ]at Er;cases Er;exact kU VD (by rw[hE];exact(ih g _ qQ).1)
   rw[<-M0]
   refine⟨⟨kH,λargs hs k r hv=>?_⟩,λargs hs=>?_⟩
   ·dsimp only at hv;cases hl:Nat.ble args.length i.nt with
    |false=>rw[hl]at hv;cases hv
    |true=>
     rw[hl,cond_true]at hv;split at hv
     ·rename_i p hp;obtain⟨v,h⟩:=p;refine⟨v,h,?_,hv⟩
      rw[<-hE]
      exact FH VD hMk hq hf hb (by rw[M0];exact wD) (by rw[M0];exact fJ) (by rw[M0];exact aV hl) hp
     ·cases hv
   ·cases hl:Nat.ble args.length i.nt with
    |false=>exact⟨none,λk=>by dsimp only;rw[hl];rfl⟩
    |true=>
     cases hp:PT X qd i.body i.lR i.res i.shr hs args with
     |none=>exact⟨none,λk=>by dsimp only;rw[hl,hp];rfl⟩
     |some p=>exact⟨some p,λk=>by dsimp only;rw[hl,hp];rfl⟩
theorem Ln{X0:Ctx U El}{qd:ah (Nat×Nat)}{lq:ah (FuncId×OU)}(hq:∀p∈qd,xu P p.1 p.2)(hX:bp P X0)(hM:∀n,kZ P {X0 with nt:=n})(ht:∀p∈lq,Fh P p.1 p.2)(VH:∀(X:Ctx U El),X.E=X0.E->X.iH=X0.iH->bp P X->∀g sp,X0.mspec g=some sp->rj P X g sp)
 {n:Nat} {f:FuncId} {args:ah (AV U El)} {v:AV U El} {h:bI U El} (hv:((inl X0 qd lq n f).bind λsp=>sp args [] λv h=>some (v,h))=some (v,h)) (ho:oy h=true):cV P X0.E f args v h:=by
 cases hi:inl X0 qd lq n f with
 |none=>rw[hi]at hv;cases hv
 |some sp=>
  rw[hi]at hv;obtain⟨h1,_⟩:=Qq hq hX hM ht VH n f sp hi;obtain⟨v',hc,hm,e⟩:=h1.2 _ _ _ _ hv;cases e;exact zE hX.u h1.1 hm ho
end
end Go.Proofs.YtfmamkmmohilgaaGreatDoor
namespace Go.Proofs.YtfmamkmmohilgaaGreatDoor
open Go.Proofs.Tryz IntKind
set_option linter.all false
set_option maxRecDepth 100000
noncomputable section
def Kw(s:Int):ah UInt8->Int
 |[]=>s
 |c::l=>Kw (u32.wrap (u32.wrap (u32.wrap (31*s)+u32.wrap (Int.ofNat (UInt8.toNat c)))+1)) l
def EX(b:ah UInt8):Int:=Kw 7 b
def ua(b:ah UInt8):Int:=i64.wrap (EX b)
theorem FC:∀(l:ah UInt8) (s:Int),0<=s->s<4294967296->0<=Kw s l/\Kw s l<4294967296:=by
 intro l;induction l with
 |nil=>intro s h0 h1;exact⟨h0,h1⟩
 |cons c l ih=>
  intro s h0 h1;refine ih _ ?_ ?_
  ·rw[IntKind.wrap_u32];omega
  ·rw[IntKind.wrap_u32];omega
theorem FB(b:ah UInt8):0<=ua b/\ua b<4294967296:=by
 obtain⟨h0,h1⟩:=FC b 7 af af
 unfold ua EX;rw[jD ab ab]
 exact⟨h0,h1⟩
namespace U_
variable(s3:Int)(x6:ah UInt8)(x7 x8:Int)(b:ah UInt8)
def X:=dp [] 20
def bd:=dG f241
def RR:bn U El:=λst=>cN (cS [2]) st (ch [2] [])
def eE:Norm U:=cS [3]
def dI:Norm U:=cS [3,6,7,8]
def an:gb U:=(.seq none .d (.seq none .d (.seq (some eE) (.seq none .d (.block (.loop dI .d))) .d)))
abbrev Y1:=Int->R
abbrev Y2:=Int->(ah UInt8)->Int->Int->R
def fY:St U El:=⟨[(3,.int .u32 s3),(6,.au .u8 x6),(7,.int .i64 x7),(8,.int .i64 x8)],[]⟩
def cX(k2:Y2):R:=k2 (7:Int) b (Int.ofNat b.length) (0:Int)
def dR:R:=some (.int .u32 s3,[])
def dQ(k1:Y1)(k2:Y2):R:=ai (bz x8 x7) (aU (dV x8 x6.length) (k2 (u32.wrap ((u32.wrap ((u32.wrap ((31:Int)*s3))+(u32.wrap (Int.ofNat (UInt8.toNat (x6.getD x8.toNat UY))))))+(1:Int))) x6 x7 (i64.wrap (x8+(1:Int))))) (k1 s3)
abbrev ex:=kf X bd an RR
abbrev it:=nO X bd an RR
def gu(gW:bn U El):=it dI [1,1,0,1,0,0] (cu 0 (bG eE gW) nE)
def cQ:=ex [1,1,1] RR nE
def f1:R:=dR s3
def f2:Nat->Y2
 |0=>λ_ _ _ _=>none
 |n+1=>λs3 x6 x7 x8=>dQ s3 x6 x7 x8 f1 (f2 n)
def f0:R:=cX b (f2 100000)
theorem E1:(λs3=>(hid cQ) ⟨[(3,.int .u32 s3)],[]⟩)=f1:=by funext s3;refine cm ?_;unfold f1;exact aa
theorem T2:∀n,(λs3 x6 x7 x8=>gu (hid cQ) n (fY s3 x6 x7 x8))=f2 n:=by
 intro n;induction n with
 |zero=>rfl
 |succ n ih=>funext s3 x6 x7 x8;rw[f2];rw[<-E1,<-ih];exact aa
theorem H2:(λs3 x6 x7 x8=>hid (gu (hid cQ) 100000) (fY s3 x6 x7 x8))=f2 100000:=by rw[cM];exact(T2 100000)
theorem run:ca X bd an (cS [2]) [2] [] [.au .u8 b]=f0 b:=by unfold f0;rw[<-H2];exact aa
theorem h_(hb:b.length<=90000):∀(n i:Nat) (s:Int),b.length<n+i->i<=b.length->f2 n s b (Int.ofNat b.length) (i:Int)=some (.int .u32 (Kw s (b.drop i)),[]):=by
 intro n;induction n with
 |zero=>intro i s h1 h2;omega
 |succ n ih=>
  intro i s h1 h2;show dQ s b (Int.ofNat b.length) (i:Int) f1 (f2 n)=_;unfold dQ;by_cases hi:i<b.length
  ·rw[eh (by simp;omega),c9 hi,toNat_nat,bQ hi,eY i ab,ih (i+1) _ ab hi,fK hi]
   rfl
  ·have:i=b.length:=ab
   subst this;rw[dF ae,bH]
   rfl
theorem aw(h:bU b.length 90000=true):f0 b=some (.int .u32 (EX b),[]):=by have:=ia h;exact h_ b this 100000 0 7 ab ab
def c:Ct:=⟨241,cj (A1 (bL .u8) λb=>(bU b.length 90000,.int .u32 (EX b))),ir call241 func241 (a1 λb e_=>(run b).trans (aw b e_))⟩
end U_
namespace Vb
variable(b:ah UInt8)
def X:=dp [U_.c] 10
def f0:R:=ai (bz (1048576:Int) (Int.ofNat b.length)) (some ((.bP [.int .i64 (0:Int),.int .i64 (4:Int)]),[])) (aU (bU b.length 90000) (some ((.bP [(.int .i64 (i64.wrap (EX b))),.int .i64 (0:Int)]),[])))
theorem run:ca X (dG f172) .d (cS [2,3]) [2,3] [] [.au .u8 b]=f0 b:=aa
theorem aw(h:bU b.length 90000=true):f0 b=some (kX (ua b,0)):=by
 have:=ia h;unfold f0;rw[dF (by show¬(1048576:Int)<(b.length:Int);omega),h]
 rfl
def c:Ct:=⟨172,cj (A1 (bL .u8) λb=>(bU b.length 90000,(.bP [.int .i64 (ua b),.int .i64 (0:Int)]))),ir call172 func172 (a1 λb e_=>(run b).trans (aw b e_))⟩
end Vb
namespace L7
variable(b:ah UInt8)
def X:=dp [Vb.c] 11
def f0:R:=aU (bU b.length 90000) (gl (ua b))
theorem run:ca X (dG f96) .d (cS [2]) [2] [] [.au .u8 b]=f0 b:=aa
theorem aw(h:bU b.length 90000=true):f0 b=gl (ua b):=by unfold f0;rw[h];rfl
def c:Ct:=⟨96,cj (A1 (bL .u8) λb=>(bU b.length 90000,.int .i64 (ua b))),ir call96 func96 (a1 λb e_=>(run b).trans (aw b e_))⟩
end L7
def GA(a:Int):Int:=bif bz a (-1)then 2 else bif bz 1048576 a then 2 else 0
def xe(a:Int):bS:=bif bz a (-1)then⟨[],0,0⟩else bif bz 1048576 a then⟨[],0,0⟩else⟨[],0,a⟩
def qD(p:bS×Int):Fin U El:=(.bP [.agg [.au .u8 p.1.dd,.int .i64 p.1.dn,.int .i64 p.1.da],.int .i64 p.2],[])
namespace CQ
variable(cA a:Int)
def X:=dp [] 13
def bd:=dG Tryz.f10
def fM:Norm U:=⟨[],[13,3],[],[],[],[(13,0,.u8)],[]⟩
def RR:bn U El:=λst=>fz X 13 [(2,49)] 13 st λst=>cN fM st (ch [13,3] [])
def an:gb U:=(.seq none .d (.seq (some (⟨[],[0,2],[2],[],[],[],[]⟩)) .d .d))
abbrev Y1:=Int->Int->Int->R
def cX(k1:Y1):R:=ai (bz a (-1:Int)) (some ((.bP [(.agg [(.au .u8 ([]:ah UInt8)),.int .i64 (0:Int),.int .i64 (0:Int)]),.int .i64 (2:Int)]),[])) (ai (bz (1048576:Int) a) (some ((.bP [(.agg [(.au .u8 ([]:ah UInt8)),.int .i64 (0:Int),.int .i64 (0:Int)]),.int .i64 (2:Int)]),[])) (k1 a (0:Int) (0:Int)))
def dR(fA gA:Int):R:=some ((.bP [(.agg [(.au .u8 ([]:ah UInt8)),.int .i64 (0:Int),.int .i64 cA]),.int .i64 (0:Int)]),[])
abbrev ex:=kf X bd an RR
def cQ:=ex [1,1] RR nE
def f1(fA gA:Int):R:=dR cA fA gA
def f0:R:=cX a f1
theorem E1:(λcA fA gA=>(hid cQ) ⟨[(0,.int .i64 cA),(2,.ptr 2 0)],[(2,.box 0 [.cL,.int .i64 fA,.int .i64 gA])]⟩)=f1:=by funext cA fA gA;refine cm ?_;unfold f1;exact aa
theorem run:gH X bd an fM [(2,49)] [13,3] [] [.int .i64 a]=f0 a:=by unfold f0;rw[<-E1];exact aa
theorem aw:f0 a=some (qD (xe a,GA a)):=by
 show cX a f1=_;unfold cX xe GA;cases bz a (-1)
 ·cases bz 1048576 a<;>rfl
 ·rfl
theorem ok:bp prog X:=fV lq (ss _) pD
theorem jE:kZ prog X:=λg sp h=>by cases h
theorem spec:cV prog E 10 [(.int .i64 a)] (.bP [(.agg [(.au .u8 ((xe a).dd)),(.int .i64 ((xe a).dn)),(.int .i64 ((xe a).da))]),(.int .i64 (GA a))]) []:=cR ok jE call10 func10 aa aa aa (by show 1<=13;decide) af (by rfl) ((run a).trans (aw a))
def sp:Sp U El:=λargs k=>match args with
 |[.int .i64 a]=>k (.bP [(.agg [(.au .u8 ((xe a).dd)),(.int .i64 ((xe a).dn)),(.int .i64 ((xe a).da))]),.int .i64 (GA a)]) []
 |_=>none
theorem du:gQ prog E 10 sp where
 pe:=λvs=>by
  unfold sp;split
  ·exact⟨some (_,_),λ_=>rfl⟩
  ·exact⟨none,λ_=>rfl⟩
 ok:=λvs k r h=>by
  unfold sp at h;split at h
  ·exact⟨_,_,.inl (spec _),h⟩
  ·cases h
end CQ
def oN(n size:Int):ah UInt8:=ep n size.toNat
theorem DL{n:Int}{k:Nat}(hk:k<=8):jG (u8.wrap (Int.fdiv (u64.wrap n) (2^min (Int.toNat (i64.wrap (8*(k:Int)))) (IntKind.bits .u64))))=lW n k:=by
 rw[jD ab ab]
 have:min (8*(k:Int)).toNat (IntKind.bits .u64)=8*k:=by
  have:(8*(k:Int)).toNat=8*k:=ab
  rw[this]
  exact eV (by show 8*k<=64;omega)
 rw[this]
 rfl
namespace P0
variable(b0:ah UInt8)(n1 i7 n size:Int)
def X:=dp [] 24
def bd:=dG f94
def fM:Norm U:=⟨[(6,.u8)],[6],[6],[],[],[],[]⟩
def RR:bn U El:=λst=>cN fM st (qH [6])
def eE:Norm U:=⟨[(0,.u8)],[0],[0],[],[],[],[]⟩
def dI:Norm U:=⟨[(0,.u8)],[0,1,7],[0],[],[],[],[]⟩
def an:gb U:=(.seq none .d (.seq (some eE) (.seq none .d (.block (.loop dI .d))) .d))
abbrev Y1:=(ah UInt8)->R
abbrev Y2:=(ah UInt8)->Int->Int->R
def fY:St U El:=⟨[(0,.cf 0),(1,.int .i64 n1),(7,.int .i64 i7)],[(0,.rows .u8 b0)]⟩
def cX(k2:Y2):R:=k2 ([]:ah UInt8) n (i64.wrap (size-(1:Int)))
def dR:R:=some (.cf 6,[(6,.rows .u8 b0)])
def dQ(k1:Y1)(k2:Y2):R:=ai (bg (0:Int) i7) (aU (bg 0 (i64.wrap ((8:Int)*i7))) (aU (Ni (u8.wrap (Int.fdiv (u64.wrap n1) (2^min (Int.toNat (i64.wrap ((8:Int)*i7))) (IntKind.bits .u64))))&&true) (aU (bU ((List.length b0+List.length ([jG (u8.wrap (Int.fdiv (u64.wrap n1) (2^min (Int.toNat (i64.wrap ((8:Int)*i7))) (IntKind.bits .u64))))]:ah UInt8))*1) 140737488355328&&bU (List.length b0+List.length ([jG (u8.wrap (Int.fdiv (u64.wrap n1) (2^min (Int.toNat (i64.wrap ((8:Int)*i7))) (IntKind.bits .u64))))]:ah UInt8)) 9223372036854775807) (k2 (b0++([jG (u8.wrap (Int.fdiv (u64.wrap n1) (2^min (Int.toNat (i64.wrap ((8:Int)*i7))) (IntKind.bits .u64))))]:ah UInt8)) n1 (i64.wrap (i7-(1:Int))))))) (k1 b0)
abbrev ex:=kf X bd an RR
abbrev it:=nO X bd an RR
def gu(gW:bn U El):=it dI [1,0,1,0,0] (cu 0 (bG eE gW) nE)
def cQ:=ex [1,1] RR nE
def f1:R:=dR b0
def f2:Nat->Y2
 |0=>λ_ _ _=>none
 |n+1=>λb0 n1 i7=>dQ b0 n1 i7 f1 (f2 n)
def f0:R:=cX n size (f2 100000)
theorem E1:(λb0=>(hid cQ) ⟨[(0,.cf 0)],[(0,.rows .u8 b0)]⟩)=f1:=by funext b0;refine cm ?_;unfold f1;exact aa
theorem T2:∀n,(λb0 n1 i7=>gu (hid cQ) n (fY b0 n1 i7))=f2 n:=by
 intro n;induction n with
 |zero=>rfl
 |succ n ih=>funext b0 n1 i7;rw[f2];rw[<-E1,<-ih];exact aa
theorem H2:(λb0 n1 i7=>hid (gu (hid cQ) 100000) (fY b0 n1 i7))=f2 100000:=by rw[cM];exact(T2 100000)
theorem run:runM X bd an fM [6] [] [.cL,.int .i64 n,.int .i64 size]=f0 n size:=by unfold f0;rw[<-H2];exact aa
theorem h_:∀(m k:Nat) (b:ah UInt8),k<m->k<=8->b.length+k<=100000->f2 m b n ((k:Int)-1)=some (.cf 6,[(6,.rows .u8 (b++ep n k))]):=by
 intro m;induction m with
 |zero=>intro k b h;omega
 |succ m ih=>
  intro k b h hk hb;show dQ b n ((k:Int)-1) f1 (f2 m)=_;unfold dQ;cases k with
  |zero=>rw[Ji ae];simp only[gy,ep,cU];rfl
  |succ k=>
   have e:((k+1:Nat):Int)-1=(k:Int):=ab
   rw[e,iI ab,pj,DL ab,xq ab,jD (x:=(k:Int)-1) ab ab,jD (x:=8*(k:Int)) ab ab,iI ab,ih k _ ab ab (by simp;omega)]
   simp only[eZ,ee,dJ,ep,b_,eM,gh]
theorem aw(h:(bg 0 size&&bg size 8)=true):f0 n size=some (.cf 6,[(6,.rows .u8 (oN n size))]):=by
 obtain⟨h0,h1⟩:=aZ.1 h;have h0:=ja h0;have h1:=ja h1;obtain⟨k,rfl⟩:=bC h0;show f2 100000 [] n (i64.wrap ((k:Int)-1))=_;rw[jD ab ab,h_ n 100000 k [] ab ab (by simp;omega)]
 rfl
theorem ok:bp prog X:=fV lq (ss _) pD
theorem jE:kZ prog X:=λg sp h=>by cases h
theorem spec(h:((bg 0 size&&bg size 8))=true):lT prog E 94 [.cL,(.int .i64 n),(.int .i64 size)] [] (.cf 6) [(6,(.rows .u8 (oN n size)))]:=pr ok jE func94 aa aa aa (by show 3<=24;decide) ((run n size).trans (aw n size h))
def sp:wF U El:=λargs hs k=>match args,hs with
 |[.cL,.int .i64 n,.int .i64 size],[]=>aU true (aU (bg 0 size&&bg size 8) (k (.cf 6) [(6,.rows .u8 (oN n size))]))
 |_,_=>none
theorem du:ql prog E 94 sp:=⟨call94,λargs hs k r h=>by
 unfold sp at h;split at h
 ·obtain⟨_,hA⟩:=aQ h;obtain⟨h1,hB⟩:=aQ hA;exact⟨_,_,spec _ _ h1,hB⟩
 ·cases h⟩
theorem vE:∀args hs,∃oo:Option (AV U El×bI U El),∀k,sp args hs k=oo.bind λp=>k p.1 p.2:=λargs hs=>by
 unfold sp;split
 ·exact iC (iC ⟨some (_,_),λ_=>rfl⟩)
 ·exact⟨none,λ_=>rfl⟩
end P0
namespace put
variable(b0:ah UInt8)(n1 i7 n size:Int)(b:ah UInt8)
def X:=dp [] 24
def bd:=dG f94
def fM:Norm U:=⟨[(6,.u8)],[6],[6],[],[],[],[]⟩
def RR:bn U El:=λst=>cN fM st (qH [6])
def eE:Norm U:=⟨[(0,.u8)],[0],[0],[],[],[],[]⟩
def dI:Norm U:=⟨[(0,.u8)],[0,1,7],[0],[],[],[],[]⟩
def an:gb U:=(.seq none .d (.seq (some eE) (.seq none .d (.block (.loop dI .d))) .d))
abbrev Y1:=(ah UInt8)->R
abbrev Y2:=(ah UInt8)->Int->Int->R
def fY:St U El:=⟨[(0,.cf 0),(1,.int .i64 n1),(7,.int .i64 i7)],[(0,.rows .u8 b0)]⟩
def cX(k2:Y2):R:=k2 b n (i64.wrap (size-(1:Int)))
def dR:R:=some (.cf 6,[(6,.rows .u8 b0)])
def dQ(k1:Y1)(k2:Y2):R:=ai (bg (0:Int) i7) (aU (bg 0 (i64.wrap ((8:Int)*i7))) (aU (Ni (u8.wrap (Int.fdiv (u64.wrap n1) (2^min (Int.toNat (i64.wrap ((8:Int)*i7))) (IntKind.bits .u64))))&&true) (aU (bU ((List.length b0+List.length ([jG (u8.wrap (Int.fdiv (u64.wrap n1) (2^min (Int.toNat (i64.wrap ((8:Int)*i7))) (IntKind.bits .u64))))]:ah UInt8))*1) 140737488355328&&bU (List.length b0+List.length ([jG (u8.wrap (Int.fdiv (u64.wrap n1) (2^min (Int.toNat (i64.wrap ((8:Int)*i7))) (IntKind.bits .u64))))]:ah UInt8)) 9223372036854775807) (k2 (b0++([jG (u8.wrap (Int.fdiv (u64.wrap n1) (2^min (Int.toNat (i64.wrap ((8:Int)*i7))) (IntKind.bits .u64))))]:ah UInt8)) n1 (i64.wrap (i7-(1:Int))))))) (k1 b0)
abbrev ex:=kf X bd an RR
abbrev it:=nO X bd an RR
def gu(gW:bn U El):=it dI [1,0,1,0,0] (cu 0 (bG eE gW) nE)
def cQ:=ex [1,1] RR nE
def f1:R:=dR b0
def f2:Nat->Y2
 |0=>λ_ _ _=>none
 |n+1=>λb0 n1 i7=>dQ b0 n1 i7 f1 (f2 n)
def f0:R:=cX n size b (f2 100000)
theorem E1:(λb0=>(hid cQ) ⟨[(0,.cf 0)],[(0,.rows .u8 b0)]⟩)=f1:=by funext b0;refine cm ?_;unfold f1;exact aa
theorem T2:∀n,(λb0 n1 i7=>gu (hid cQ) n (fY b0 n1 i7))=f2 n:=by
 intro n;induction n with
 |zero=>rfl
 |succ n ih=>funext b0 n1 i7;rw[f2];rw[<-E1,<-ih];exact aa
theorem H2:(λb0 n1 i7=>hid (gu (hid cQ) 100000) (fY b0 n1 i7))=f2 100000:=by rw[cM];exact(T2 100000)
theorem run:runM X bd an fM [6] [(1000000000,.rows .u8 b)] [.cf 1000000000,.int .i64 n,.int .i64 size]=f0 n size b:=by unfold f0;rw[<-H2];exact aa
theorem h_:∀(m k:Nat) (b:ah UInt8),k<m->k<=8->b.length+k<=100000->f2 m b n ((k:Int)-1)=some (.cf 6,[(6,.rows .u8 (b++ep n k))]):=by
 intro m;induction m with
 |zero=>intro k b h;omega
 |succ m ih=>
  intro k b h hk hb;show dQ b n ((k:Int)-1) f1 (f2 m)=_;unfold dQ;cases k with
  |zero=>rw[Ji ae];simp only[gy,ep,cU];rfl
  |succ k=>
   have e:((k+1:Nat):Int)-1=(k:Int):=ab
   rw[e,iI ab,pj,DL ab,xq ab,jD (x:=(k:Int)-1) ab ab,jD (x:=8*(k:Int)) ab ab,iI ab,ih k _ ab ab (by simp;omega)]
   simp only[eZ,ee,dJ,ep,b_,eM,gh]
theorem aw(h:(bU b.length 90000&&(bg 0 size&&bg size 8))=true):f0 n size b=some (.cf 6,[(6,.rows .u8 (b++oN n size))]):=by
 simp only[aj]at h;have hb:=ia h.1;have h0:=ja h.2.1;have h1:=ja h.2.2;obtain⟨k,rfl⟩:=bC h0;show f2 100000 b n (i64.wrap ((k:Int)-1))=_;rw[jD ab ab,h_ n 100000 k b ab ab ab]
 rfl
theorem ok:bp prog X:=fV lq (ss _) pD
theorem jE:kZ prog X:=λg sp h=>by cases h
theorem spec(h:((bU b.length 90000&&(bg 0 size&&bg size 8)))=true):lT prog E 94 [(.cf 1000000000),(.int .i64 n),(.int .i64 size)] [(1000000000,(.rows .u8 b))] (.cf 6) [(6,(.rows .u8 (j8 b (oN n size))))]:=pr ok jE func94 aa aa aa (by show 3<=24;decide) ((run n size b).trans (aw n size b h))
def sp:wF U El:=λargs hs k=>match args,hs with
 |[.cf q0,.int .i64 n,.int .i64 size],[(q1,.rows .u8 b)]=>aU (Nat.beq q0 1000000000&&(Nat.beq q1 1000000000&&true)) (aU (bU b.length 90000&&(bg 0 size&&bg size 8)) (k (.cf 6) [(6,(.rows .u8 (j8 b (oN n size))))]))
 |_,_=>none
theorem du:ql prog E 94 sp:=⟨call94,λargs hs k r h=>by
 unfold sp at h;split at h
 ·obtain⟨hq,hA⟩:=aQ h;clear h;simp only[aj]at hq;obtain⟨e0,e1,_⟩:=hq;cases al e0;cases al e1;obtain⟨h1,hB⟩:=aQ hA;exact⟨_,_,spec _ _ _ h1,hB⟩
 ·cases h⟩
theorem vE:∀args hs,∃oo:Option (AV U El×bI U El),∀k,sp args hs k=oo.bind λp=>k p.1 p.2:=λargs hs=>by
 unfold sp;split
 ·exact iC (iC ⟨some (_,_),λ_=>rfl⟩)
 ·exact⟨none,λ_=>rfl⟩
end put
def l9(b:ah UInt8)(en:Bool)(n:Int):Bool:=bif en then true else bz (Int.ofNat b.length) n
def Dl(b:ah UInt8)(en:Bool)(n:Int):ah UInt8:=bif l9 b en n then []else sub b 0 n
def lF(b:ah UInt8)(en:Bool)(n:Int):ah UInt8:=bif l9 b en n then b else sub b n (Int.ofNat b.length)
namespace take
variable(n:Int)(b:ah UInt8)(en:Bool)(n1:Int)(aA:ah UInt8)
def X:=dp [] 42
def bd:=dG f98
def fM:Norm U:=⟨[],[4],[1000000000],[(4,.u8)],[],[],[(1000000000,0,.u8)]⟩
def RR:bn U El:=λst=>cN fM st (qH [4])
def an:gb U:=(.seq none .d (.seq none (.seq (some (⟨[],[0,1],[1000000000],[],[],[],[(1000000000,0,.u8)]⟩)) .d .d) .d))
abbrev Y1:=Int->(ah UInt8)->Bool->R
def cX(k1:Y1):R:=ai en (k1 n b true) (k1 n b (bz (Int.ofNat b.length) n))
def dR(bA:Bool):R:=ai bA (some ((.au .u8 ([]:ah UInt8)),[(1000000000,.box 1000000000 [.au .u8 aA,.bool bA])])) (aU (bg 0 (0:Int)&&bg (0:Int) n1&&bg n1 (Int.ofNat aA.length)) (aU (bg 0 n1&&bg n1 (Int.ofNat aA.length)&&bg (Int.ofNat aA.length) (Int.ofNat aA.length)) (some ((.au .u8 (sub aA (0:Int) n1)),[(1000000000,(.box 1000000000 [(.au .u8 (sub aA n1 (Int.ofNat aA.length))),.bool bA]))]))))
abbrev ex:=kf X bd an RR
def cQ:=ex [1,0,1] (λbx=>exec X (oM [1,1] bd) .d bx RR (λ_ _=>none) RR) nE
def f1(bA:Bool):R:=dR n1 aA bA
def f0:R:=cX n b en f1
theorem E1:(λn1 aA bA=>(hid cQ) ⟨[(0,.ptr 1000000000 0),(1,.int .i64 n1)],[(1000000000,.box 1000000000 [.au .u8 aA,.bool bA])]⟩)=f1:=by funext n1 aA bA;refine cm ?_;unfold f1;exact aa
theorem run:runM X bd an fM [4] [(1000000000,.box 1000000000 [.au .u8 b,.bool en])] [.ptr 1000000000 0,.int .i64 n]=f0 n b en:=by unfold f0;rw[<-E1];exact aa
theorem aw(h:(bg 0 n&&bU b.length 90000)=true):f0 n b en=some (.au .u8 (Dl b en n),[(1000000000,.box 1000000000 [.au .u8 (lF b en n),.bool (l9 b en n)])]):=by
 obtain⟨h0,h1⟩:=aZ.1 h;show cX n b en f1=_;unfold cX Dl lF l9;cases en with
 |true=>rfl
 |false=>
  simp only[gy,cond_false]
  cases e:bz (Int.ofNat b.length) n with
  |true=>rfl
  |false=>
   have e:=oD e;show dR n b false=_;unfold dR;rw[h0,iI (show n<=Int.ofNat b.length by omega),iI (j_ _),iI (j_ _)]
   rfl
theorem ok:bp prog X:=fV lq (ss _) pD
theorem jE:kZ prog X:=λg sp h=>by cases h
theorem spec(h:((bg 0 n&&bU b.length 90000))=true):lT prog E 98 [(.ptr 1000000000 0),(.int .i64 n)] [(1000000000,(.box 1000000000 [(.au .u8 b),(.bool en)]))] (.au .u8 (Dl b en n)) [(1000000000,(.box 1000000000 [(.au .u8 (lF b en n)),(.bool (l9 b en n))]))]:=pr ok jE func98 aa aa aa (by show 2<=42;decide) ((run n b en).trans (aw n b en h))
def sp:wF U El:=λargs hs k=>match args,hs with
 |[.ptr q0 0,.int .i64 n],[(q1,.box q2 [.au .u8 b,.bool en])]=>aU (Nat.beq q0 1000000000&&(Nat.beq q1 1000000000&&(Nat.beq q2 1000000000&&true))) (aU (bg 0 n&&bU b.length 90000) (k (.au .u8 (Dl b en n)) [(1000000000,(.box 1000000000 [.au .u8 (lF b en n),.bool (l9 b en n)]))]))
 |_,_=>none
theorem du:ql prog E 98 sp:=⟨call98,λargs hs k r h=>by
 unfold sp at h;split at h
 ·obtain⟨hq,hA⟩:=aQ h;clear h;simp only[aj]at hq;obtain⟨e0,e1,e2,_⟩:=hq;cases al e0;cases al e1;cases al e2;obtain⟨h1,hB⟩:=aQ hA;exact⟨_,_,spec _ _ _ h1,hB⟩
 ·cases h⟩
theorem vE:∀args hs,∃oo:Option (AV U El×bI U El),∀k,sp args hs k=oo.bind λp=>k p.1 p.2:=λargs hs=>by
 unfold sp;split
 ·exact iC (iC ⟨some (_,_),λ_=>rfl⟩)
 ·exact⟨none,λ_=>rfl⟩
end take
def j4(b:ah UInt8)(en:Bool)(size:Int):Int:=F9 (Dl b en size)
theorem Nl{b:ah UInt8}{en:Bool}{n:Int}(h0:0<=n):((Dl b en n).length:Int)<=n:=by
 unfold Dl;cases e:l9 b en n with
 |true=>exact h0
 |false=>simp only[cond_false,sub];simp;omega
namespace D0
variable(size:Int)(b:ah UInt8)(en:Bool)(n5:Int)(aA:ah UInt8)
def X:Ctx U El:=⟨E,iH,zeros,eqs,lr [],100000,24,js [],lO [(98,sY take.sp)],λ_=>none⟩
def bd:=dG f97
def fM:Norm U:=⟨[],[4],[1000000000],[],[],[],[(1000000000,0,.u8)]⟩
def RR:bn U El:=λst=>cN fM st (qH [4])
def eE:Norm U:=⟨[],[5],[1000000000],[],[],[],[(1000000000,0,.u8)]⟩
def dI:Norm U:=⟨[],[5,10,11,12],[1000000000],[],[],[],[(1000000000,0,.u8)]⟩
def an:gb U:=(.seq none .d (.seq none .d (.seq (some eE) (.seq none .d (.block (.loop dI .d))) .d)))
abbrev Y1:=Int->(ah UInt8)->Bool->R
abbrev Y2:=Int->(ah UInt8)->Int->Int->(ah UInt8)->Bool->R
def fY(eA:ah UInt8)(iA dA:Int)(aA:ah UInt8)(bA:Bool):St U El:=⟨[(5,.int .u64 n5),(10,.au .u8 eA),(11,.int .i64 iA),(12,.int .i64 dA)],[(1000000000,.box 1000000000 [.au .u8 aA,.bool bA])]⟩
def cX(k2:Y2):R:=aU (bg 0 size&&bU b.length 90000) (k2 (0:Int) (Dl b en size) (Int.ofNat (List.length (Dl b en size))) (0:Int) (lF b en size) (l9 b en size))
def dR(bA:Bool):R:=some (.int .i64 (i64.wrap n5),[(1000000000,.box 1000000000 [.au .u8 aA,.bool bA])])
def dQ(eA:ah UInt8)(iA dA:Int)(aA:ah UInt8)(bA:Bool)(k1:Y1)(k2:Y2):R:=ai (bz dA iA) (aU (dV dA eA.length) (k2 (ub .u64 (u64.wrap (n5*2^min (Int.toNat (8:Int)) (IntKind.bits .u64))) (u64.wrap (Int.ofNat (UInt8.toNat (eA.getD dA.toNat UY))))) eA iA (i64.wrap (dA+(1:Int))) aA bA)) (k1 n5 aA bA)
abbrev ex:=kf X bd an RR
abbrev it:=nO X bd an RR
def gu(gW:bn U El):=it dI [1,1,0,1,0,0] (cu 0 (bG eE gW) nE)
def cQ:=ex [1,1,1] RR nE
def f1(bA:Bool):R:=dR n5 aA bA
def f2:Nat->Y2
 |0=>λ_ _ _ _ _ _=>none
 |n+1=>λn5 eA iA dA aA bA=>dQ n5 eA iA dA aA bA f1 (f2 n)
def f0:R:=cX size b en (f2 100000)
theorem E1:(λn5 aA bA=>(hid cQ) ⟨[(5,.int .u64 n5)],[(1000000000,.box 1000000000 [.au .u8 aA,.bool bA])]⟩)=f1:=by funext n5 aA bA;refine cm ?_;unfold f1;exact aa
theorem T2:∀n,(λn5 eA iA dA aA bA=>gu (hid cQ) n (fY n5 eA iA dA aA bA))=f2 n:=by
 intro n;induction n with
 |zero=>rfl
 |succ n ih=>funext n5 eA iA dA aA bA;rw[f2];rw[<-E1,<-ih];exact aa
theorem H2:(λn5 eA iA dA aA bA=>hid (gu (hid cQ) 100000) (fY n5 eA iA dA aA bA))=f2 100000:=by rw[cM];exact(T2 100000)
theorem run:runM X bd an fM [4] [(1000000000,.box 1000000000 [.au .u8 b,.bool en])] [.ptr 1000000000 0,.int .i64 size]=f0 size b en:=by unfold f0;rw[<-H2];exact aa
theorem h_(l:ah UInt8)(hl:l.length<=8)(c:ah UInt8)(d:Bool):∀(n i:Nat) (s:Int),l.length<n+i->i<=l.length->f2 n s l (Int.ofNat l.length) (i:Int) c d=some (.int .i64 (i64.wrap (Ez s (l.drop i))),[(1000000000,.box 1000000000 [.au .u8 c,.bool d])]):=by
 intro n;induction n with
 |zero=>intro i s h1 h2;omega
 |succ n ih=>
  intro i s h1 h2;show dQ s l (Int.ofNat l.length) (i:Int) c d f1 (f2 n)=_;unfold dQ;by_cases hi:i<l.length
  ·rw[eh (by simp;omega),c9 hi,toNat_nat,bQ hi,eY i ab,ih (i+1) _ ab hi,fK hi]
   rfl
  ·have:i=l.length:=ab
   subst this;rw[dF ae,bH]
   rfl
theorem aw(h:(bg 0 size&&(bg size 8&&bU b.length 90000))=true):f0 size b en=some (.int .i64 (j4 b en size),[(1000000000,.box 1000000000 [.au .u8 (lF b en size),.bool (l9 b en size)])]):=by
 simp only[aj]at h;have h0:=ja h.1;have h1:=ja h.2.1;have hl:=Nl (b:=b) (en:=en) h0;show cX size b en (f2 100000)=_;unfold cX;rw[h.1,h.2.2]
 exact h_ _ ab _ _ 100000 0 0 ab ab
theorem ok:bp prog X:=fV lq KE pD
theorem jE:kZ prog X:=jx _ (Ja (kU ok take.du) MS)
theorem spec(h:((bg 0 size&&(bg size 8&&bU b.length 90000)))=true):lT prog E 97 [(.ptr 1000000000 0),(.int .i64 size)] [(1000000000,(.box 1000000000 [(.au .u8 b),(.bool en)]))] (.int .i64 (j4 b en size)) [(1000000000,(.box 1000000000 [(.au .u8 (lF b en size)),(.bool (l9 b en size))]))]:=pr ok jE func97 aa aa aa (by show 2<=24;decide) ((run size b en).trans (aw size b en h))
def sp:wF U El:=λargs hs k=>match args,hs with
 |[.ptr q0 0,.int .i64 size],[(q1,.box q2 [.au .u8 b,.bool en])]=>aU (Nat.beq q0 1000000000&&(Nat.beq q1 1000000000&&(Nat.beq q2 1000000000&&true))) (aU (bg 0 size&&(bg size 8&&bU b.length 90000)) (k (.int .i64 (j4 b en size)) [(1000000000,(.box 1000000000 [.au .u8 (lF b en size),.bool (l9 b en size)]))]))
 |_,_=>none
theorem du:ql prog E 97 sp:=⟨call97,λargs hs k r h=>by
 unfold sp at h;split at h
 ·obtain⟨hq,hA⟩:=aQ h;clear h;simp only[aj]at hq;obtain⟨e0,e1,e2,_⟩:=hq;cases al e0;cases al e1;cases al e2;obtain⟨h1,hB⟩:=aQ hA;exact⟨_,_,spec _ _ _ h1,hB⟩
 ·cases h⟩
theorem vE:∀args hs,∃oo:Option (AV U El×bI U El),∀k,sp args hs k=oo.bind λp=>k p.1 p.2:=λargs hs=>by
 unfold sp;split
 ·exact iC (iC ⟨some (_,_),λ_=>rfl⟩)
 ·exact⟨none,λ_=>rfl⟩
end D0
def iz(b:ah UInt8):ah UInt8:=(ep (Int.ofNat b.length) 4++b)++ep (ua (ep (Int.ofNat b.length) 4++b)) 4
namespace Gz
variable(b:ah UInt8)
def X:Ctx U El:=⟨E,iH,zeros,eqs,lr [(96,L7.c.s)],100000,13,js [],lO [(94,sY (Wi P0.sp put.sp))],λ_=>none⟩
def fM:Norm U:=⟨[(2,.u8)],[2],[2],[],[],[],[]⟩
def f0:R:=aU (bg 0 (4:Int)&&bg (4:Int) 8) (aU (bU ((List.length (oN (Int.ofNat b.length) (4:Int))+List.length b)*1) 140737488355328&&bU (List.length (oN (Int.ofNat b.length) (4:Int))+List.length b) 9223372036854775807) (aU (bU (List.length ((oN (Int.ofNat b.length) (4:Int))++b)) 90000) (aU ((bU (List.length ((oN (Int.ofNat b.length) (4:Int))++b)) 90000&&(bg 0 (4:Int)&&bg (4:Int) 8))) (some (.cf 0,[(0,.rows .u8 (j8 ((oN (Int.ofNat b.length) (4:Int))++b) (oN (ua ((oN (Int.ofNat b.length) (4:Int))++b)) (4:Int))))])))))
theorem run:ca X (dG f44) .d fM [2] [2] [.au .u8 b]=f0 b:=aa
theorem aw(h:bU b.length 65535=true):f0 b=some (qR .u8 (iz b)):=by
 have hb:=ia h;unfold f0;have e:(oN (Int.ofNat b.length) 4).length=4:=dY _ _;have e2:(oN (Int.ofNat b.length) 4++b).length=4+b.length:=by rw[aF,e]
 rw[e,e2,c_ (show(4+b.length)*1<=140737488355328 by omega),c_ (show 4+b.length<=9223372036854775807 by omega),c_ (show 4+b.length<=90000 by omega)]
 rfl
theorem ok:bp prog X:=fV lq (yj L7.c.ok KE) pD
def c:Ct:=⟨44,ko (A1 (bL .u8) λb=>(bU b.length 65535,(.cf 0,[(0,.rows .u8 (iz b))]))),K6 (X:=X) ok (jx _ (Ja (kU ok (P4 P0.du put.du)) MS)) call44 func44 (a1 λb e_=>⟨(run b).trans (aw b e_),rfl⟩)⟩
end Gz
namespace xp
variable(b:ah UInt8)
def X:=dp [] 8
def fM:Norm U:=⟨[(2,.u8)],[2],[2],[],[],[],[]⟩
def f0:R:=ai (lU 0 b.length) (aU (true) (aU (bU ((List.length ([]:ah UInt8)+List.length b)*1) 140737488355328&&bU (List.length ([]:ah UInt8)+List.length b) 9223372036854775807) (some (.cf 0,[(0,.rows .u8 (([]:ah UInt8)++b))])))) (J2 (some (.cf 0,[(0,.rows .u8 ([]:ah UInt8))])) (aU (true) (aU (bU ((List.length ([]:ah UInt8)+List.length b)*1) 140737488355328&&bU (List.length ([]:ah UInt8)+List.length b) 9223372036854775807) (some (.cf 0,[(0,.rows .u8 (([]:ah UInt8)++b))])))))
theorem run:ca X (dG f47) .d fM [2] [2] [.au .u8 b]=f0 b:=aa
theorem aw(h:bU b.length 90000=true):f0 b=some (qR .u8 b):=by
 have hb:=ia h;show ai (lU 0 b.length) _ _=_;rw[c_ (show(List.length ([]:ah UInt8)+b.length)*1<=140737488355328 by simp;omega),c_ (show List.length ([]:ah UInt8)+b.length<=9223372036854775807 by simp;omega)]
 cases b with
 |nil=>exact rf (some (qR .u8 []))
 |cons c l=>rfl
def c:Ct:=⟨47,ko (A1 (bL .u8) λb=>(bU b.length 90000,(.cf 0,[(0,.rows .u8 (b))]))),zw call47 func47 (a1 λb e_=>⟨(run b).trans (aw b e_),rfl⟩)⟩
end xp
namespace rJ
variable(d:bS)
def X:=dp [xp.c] 8
def fM:Norm U:=⟨[],[8],[5000],[],[],[],[]⟩
def RR:bn U El:=λst=>fz X 8 [(2,49)] 8 st λst=>cN fM st (qH [8])
def f0:R:=aU (bU d.dd.length 90000) (some (.agg [.cf 5000,.int .i64 d.dn,.int .i64 d.da],[(5000,.rows .u8 (d.dd))]))
theorem run:Hm X (dG f45) .d fM [(2,49)] [8] [] [.agg [.au .u8 d.dd,.int .i64 d.dn,.int .i64 d.da]]=f0 d:=aa
theorem aw(h:bU (List.length (bS.dd d)) 90000=true):f0 d=some (.agg [.cf 5000,.int .i64 d.dn,.int .i64 d.da],[(5000,.rows .u8 d.dd)]):=by unfold f0;rw[h];rfl
theorem ok:bp prog X:=fV lq (ss _) pD
theorem jE:kZ prog X:=λg sp h=>by cases h
theorem spec(h:(bU (List.length (bS.dd d)) 90000)=true):lT prog E 45 [(.agg [(.au .u8 d.dd),(.int .i64 d.dn),(.int .i64 d.da)])] [] (.agg [(.cf 5000),(.int .i64 (bS.dn d)),(.int .i64 (bS.da d))]) [(5000,(.rows .u8 (bS.dd d)))]:=pW ok jE func45 aa aa aa (by show 1<=8;decide) ((run d).trans (aw d h))
def sp:wF U El:=λargs hs k=>match args,hs with
 |[.agg [.au .u8 nK,.int .i64 nJ,.int .i64 nL]],[]=>aU true (aU (bU (List.length (bS.dd (⟨nK,nJ,nL⟩:bS))) 90000) (k (.agg [.cf 5000,(.int .i64 (bS.dn (⟨nK,nJ,nL⟩:bS))),(.int .i64 (bS.da (⟨nK,nJ,nL⟩:bS)))]) [(5000,(.rows .u8 (bS.dd (⟨nK,nJ,nL⟩:bS))))]))
 |_,_=>none
theorem du:ql prog E 45 sp:=⟨call45,λargs hs k r h=>by
 unfold sp at h;split at h
 ·obtain⟨_,hA⟩:=aQ h;obtain⟨h1,hB⟩:=aQ hA;exact⟨_,_,spec ⟨_,_,_⟩ h1,hB⟩
 ·cases h⟩
theorem vE:∀args hs,∃oo:Option (AV U El×bI U El),∀k,sp args hs k=oo.bind λp=>k p.1 p.2:=λargs hs=>by
 unfold sp;split
 ·exact iC (iC ⟨some (_,_),λ_=>rfl⟩)
 ·exact⟨none,λ_=>rfl⟩
end rJ
theorem KJ{a b:Rec}(h:kS a b=true):a=b:=by obtain⟨a1,a2,a3,a4,a5,a6,a7,a8,a9,a10,a11⟩:=a;obtain⟨b1,b2,b3,b4,b5,b6,b7,b8,b9,b10,b11⟩:=b;simp only[kS,aj,beq_iff_eq]at h;obtain⟨rfl,rfl,rfl,rfl,rfl,⟨rfl,rfl,rfl,rfl,rfl⟩,rfl⟩:=h;rfl
theorem BQ{s:ah UInt8}(h:fj s=true):s.length<=20:=by simp only[fj,aj]at h;have:=ja h.2.1;simp at this;omega
theorem qJ{r:Rec}(h:jI r=true):
 (∃es ei,r=⟨1,es,ei,[],0,[],0,0,0,0,[]⟩/\1<=es/\es<=86400/\ei.length<=300/\kr 1125899906842624 ei)\/
 (∃el et,r=⟨2,0,[],el,et,[],0,0,0,0,[]⟩/\el.length<=20/\0<=et/\et<=1000)\/
 (∃em eu ea er eo,r=⟨3,0,[],[],0,em,eu,ea,er,eo,[]⟩/\em.length<=20/\0<=eu/\eu<=1073741824/\(-68719476736<=ea/\ea<=68719476736)/\(-68719476736<=er/\er<=68719476736)/\(-4194304<=eo/\eo<=4194304))\/
 (∃ex,r=⟨4,0,[],[],0,[],0,0,0,0,ex⟩/\ex.length<=500):=by
 obtain⟨hs,hk⟩:=aZ.1 h;have e:=KJ hs;obtain⟨ek,es,ei,el,et,em,eu,ea,er,eo,ex⟩:=r;simp only[HX,fo]at hk e;by_cases k1:ek=1
 ·subst k1;simp only[beq_self_eq_true,cond_true,aj,cF]at hk e;have h3:=ja hk.2.2.1;refine .inl ⟨es,ei,e,ja hk.1,ja hk.2.1,by simp at h3;omega,λx hx=>?_⟩
  have:=gC.1 hk.2.2.2 x hx;simp only[kn,bz,eX,decide_eq_true_eq]at this;omega
 ·rw[show(ek==1)=false by simpa using k1]at hk e;by_cases k2:ek=2
  ·subst k2;simp only[cond_false,beq_self_eq_true,cond_true,aj]at hk e;exact .inr (.inl ⟨el,et,e,BQ hk.1,ja hk.2.1,ja hk.2.2⟩)
  ·rw[show(ek==2)=false by simpa using k2]at hk e;by_cases k3:ek=3
   ·subst k3;simp only[cond_false,beq_self_eq_true,cond_true,sX,D5,mo,aj]at hk e;obtain⟨z1,⟨z2,z3⟩,⟨z4,z5⟩,⟨z6,z7⟩,z8,z9,R6⟩:=hk;exact .inr (.inr (.inl ⟨em,eu,ea,er,eo,e,BQ z1,ja z2,ja z3,⟨ja z4,ja z5⟩,⟨ja z6,ja z7⟩,⟨ja z9,ja R6⟩⟩))
   ·rw[show(ek==3)=false by simpa using k3]at hk e;by_cases k4:ek=4
    ·subst k4;simp only[cond_false,beq_self_eq_true,cond_true,aj]at hk e;have h3:=ja hk.2.1;exact .inr (.inr (.inr ⟨ex,e,by simp at h3;omega⟩))
    ·rw[show(ek==4)=false by simpa using k4]at hk;cases hk
theorem tQ(n:Int):jG (u8.wrap n)=lW n 0:=by
 have:u8.wrap (Int.fdiv (u64.wrap n) (2^(8*0)))=u8.wrap n:=by
  rw[Nat.mul_zero,Int.pow_zero,Int.fdiv_one,IntKind.wrap_u8,IntKind.wrap_u64,IntKind.wrap_u8]
  omega
 unfold lW;rw[this]
def pR(l:ah Int):ah UInt8:=l.flatMap λn=>ep n 8
theorem tZ(l:ah Int):(pR l).length=8*l.length:=by
 induction l with
 |nil=>rfl
 |cons n l ih=>simp only[pR,List.flatMap_cons,aF,dY,cI]at*;omega
def fT(r:Rec):ah UInt8:=
 bif r.ek==1 then ep 1 1++(ep r.es 4++(ep (Int.ofNat r.ei.length) 2++pR r.ei))else
 bif r.ek==2 then ep 2 1++(ep (Int.ofNat r.el.length) 1++(r.el++ep r.et 2))else
 bif r.ek==3 then ep 3 1++(ep (Int.ofNat r.em.length) 1++(r.em++(ep r.eu 4++pR [r.ea,r.er,r.eo])))else
 ep 4 1++(ep (Int.ofNat r.ex.length) 2++r.ex)
def JH(r:Rec):Int:=bif jI r then 0 else 1
def CP(r:Rec):ah UInt8:=bif jI r then fT r else []
theorem Mg(r:Rec):(CP r).length<=3000:=by
 unfold CP;cases h:jI r with
 |false=>simp
 |true=>
  rcases qJ h with⟨es,ei,rfl,_,_,h3,_⟩|⟨el,et,rfl,h3,_⟩|⟨em,eu,ea,er,eo,rfl,h3,_⟩|⟨ex,rfl,h3⟩
  ·show(ep 1 1++(ep es 4++(ep (Int.ofNat ei.length) 2++pR ei))).length<=3000;simp only[aF,dY,tZ];omega
  ·show(ep 2 1++(ep (Int.ofNat el.length) 1++(el++ep et 2))).length<=3000;simp only[aF,dY];omega
  ·show(ep 3 1++(ep (Int.ofNat em.length) 1++(em++(ep eu 4++pR [ea,er,eo])))).length<=3000;simp only[aF,dY,tZ,cI,eW];omega
  ·show(ep 4 1++(ep (Int.ofNat ex.length) 2++ex)).length<=3000;simp only[aF,dY];omega
def uJ(l:ah UInt8):R:=some (.bP [.au .u8 l,.int .i64 0],[])
namespace encode
variable(aA:ah UInt8)(fA:ah Int)(gA cA:Int)(dA:ah Int)(hA:Int)(gW:bn U El)(l:ah Int)(r:Rec)
def X:Ctx U El:=⟨E,iH,zeros,eqs,lr [(52,xg.c.s)],100000,97,js [(94,put.sp)],lO [(94,sY put.sp)],λ_=>none⟩
def bd:=dG f42
def fM:Norm U:=⟨[],[2,3],[],[(2,.u8)],[],[],[]⟩
def RR:bn U El:=λst=>cN fM st (ch [2,3] [])
def eE:Norm U:=⟨[(4,.u8)],[4],[4],[],[],[],[]⟩
def dI:Norm U:=⟨[(4,.u8)],[4,30,31,32],[4],[],[],[],[]⟩
def jY:Norm U:=⟨[(4,.u8),(76,.int)],[4,76,77,78],[4,76],[],[],[],[]⟩
def an:gb U:=(.seq none .d (.seq none .d (.seq none .d (.seq (some eE) (.seq none .d (.block (.seq none .d (.cond (.seq none (.region [(3,16),(7,24000)]) (.seq none .d (.block (.loop dI .d)))) (.seq none .d (.cond (.seq none (.region [(4,16),(7,46000)]) .d) (.seq none .d (.cond (.seq none .d (.seq none (.region [(4,16),(7,62000)]) (.seq none .d (.seq none .d (.block (.loop jY .d)))))) (.seq none .d (.cond (.region [(4,16),(7,92000)]) .d)))))))))) .d))))
abbrev Y1:=(ah UInt8)->R
abbrev Y2:=(ah UInt8)->(ah Int)->Int->Int->R
abbrev Y3:=(ah UInt8)->(ah Int)->Int->Int->R
def fY:St U El:=⟨[(4,.cf 4),(30,.au .int fA),(31,.int .i64 gA),(32,.int .i64 cA)],[(4,.rows .u8 aA)]⟩
def nz(bA:Int):St U El:=⟨[(4,.cf 4),(76,.cf 76),(77,.int .i64 hA),(78,.int .i64 bA)],[(4,.rows .u8 aA),(76,.rows .int dA)]⟩
def cX(k1:Y1)(k2:Y2)(k3:Y3):R:=aU (tJ r) (ai (!(jI r)) (some ((.bP [(.au .u8 ([]:ah UInt8)),.int .i64 (1:Int)]),[])) (aU (Ni (u8.wrap r.ek)&&true) (ai (r.ek==(1:Int)) (aU ((bU (List.length ([jG (u8.wrap r.ek)]:ah UInt8)) 90000&&(bg 0 (4:Int)&&bg (4:Int) 8))) (aU ((bU (List.length (j8 ([jG (u8.wrap r.ek)]:ah UInt8) (oN r.es (4:Int)))) 90000&&(bg 0 (2:Int)&&bg (2:Int) 8))) (k2 (j8 (j8 ([jG (u8.wrap r.ek)]:ah UInt8) (oN r.es (4:Int))) (oN (Int.ofNat r.ei.length) (2:Int))) r.ei (Int.ofNat r.ei.length) (0:Int)))) (ai (r.ek==(2:Int)) (aU ((bU (List.length ([jG (u8.wrap r.ek)]:ah UInt8)) 90000&&(bg 0 (1:Int)&&bg (1:Int) 8))) (aU ((lU 0 (List.length (j8 ([jG (u8.wrap r.ek)]:ah UInt8) (oN (Int.ofNat r.el.length) (1:Int))))&&bU (List.length (j8 ([jG (u8.wrap r.ek)]:ah UInt8) (oN (Int.ofNat r.el.length) (1:Int)))+List.length r.el) 140737488355328)&&(bU ((List.length (j8 ([jG (u8.wrap r.ek)]:ah UInt8) (oN (Int.ofNat r.el.length) (1:Int)))+List.length r.el)*1) 140737488355328&&bU (List.length (j8 ([jG (u8.wrap r.ek)]:ah UInt8) (oN (Int.ofNat r.el.length) (1:Int)))+List.length r.el) 9223372036854775807)) (aU ((bU (List.length ((j8 ([jG (u8.wrap r.ek)]:ah UInt8) (oN (Int.ofNat r.el.length) (1:Int)))++r.el)) 90000&&(bg 0 (2:Int)&&bg (2:Int) 8))) (k1 (j8 ((j8 ([jG (u8.wrap r.ek)]:ah UInt8) (oN (Int.ofNat r.el.length) (1:Int)))++r.el) (oN r.et (2:Int))))))) (ai (r.ek==(3:Int)) (aU ((bU (List.length ([jG (u8.wrap r.ek)]:ah UInt8)) 90000&&(bg 0 (1:Int)&&bg (1:Int) 8))) (aU ((lU 0 (List.length (j8 ([jG (u8.wrap r.ek)]:ah UInt8) (oN (Int.ofNat r.em.length) (1:Int))))&&bU (List.length (j8 ([jG (u8.wrap r.ek)]:ah UInt8) (oN (Int.ofNat r.em.length) (1:Int)))+List.length r.em) 140737488355328)&&(bU ((List.length (j8 ([jG (u8.wrap r.ek)]:ah UInt8) (oN (Int.ofNat r.em.length) (1:Int)))+List.length r.em)*1) 140737488355328&&bU (List.length (j8 ([jG (u8.wrap r.ek)]:ah UInt8) (oN (Int.ofNat r.em.length) (1:Int)))+List.length r.em) 9223372036854775807)) (aU ((bU (List.length ((j8 ([jG (u8.wrap r.ek)]:ah UInt8) (oN (Int.ofNat r.em.length) (1:Int)))++r.em)) 90000&&(bg 0 (4:Int)&&bg (4:Int) 8))) (k3 (j8 ((j8 ([jG (u8.wrap r.ek)]:ah UInt8) (oN (Int.ofNat r.em.length) (1:Int)))++r.em) (oN r.eu (4:Int))) ([r.ea,r.er,r.eo]:ah Int) (Int.ofNat (List.length ([r.ea,r.er,r.eo]:ah Int))) (0:Int))))) (ai (r.ek==(4:Int)) (aU ((bU (List.length ([jG (u8.wrap r.ek)]:ah UInt8)) 90000&&(bg 0 (2:Int)&&bg (2:Int) 8))) (aU ((lU 0 (List.length (j8 ([jG (u8.wrap r.ek)]:ah UInt8) (oN (Int.ofNat r.ex.length) (2:Int))))&&bU (List.length (j8 ([jG (u8.wrap r.ek)]:ah UInt8) (oN (Int.ofNat r.ex.length) (2:Int)))+List.length r.ex) 140737488355328)&&(bU ((List.length (j8 ([jG (u8.wrap r.ek)]:ah UInt8) (oN (Int.ofNat r.ex.length) (2:Int)))+List.length r.ex)*1) 140737488355328&&bU (List.length (j8 ([jG (u8.wrap r.ek)]:ah UInt8) (oN (Int.ofNat r.ex.length) (2:Int)))+List.length r.ex) 9223372036854775807)) (k1 ((j8 ([jG (u8.wrap r.ek)]:ah UInt8) (oN (Int.ofNat r.ex.length) (2:Int)))++r.ex)))) (k1 ([jG (u8.wrap r.ek)]:ah UInt8))))))))
def dR:R:=some ((.bP [.au .u8 aA,.int .i64 (0:Int)]),[])
def dQ(k1:Y1)(k2:Y2):R:=ai (bz cA gA) (aU (dV cA fA.length) (aU ((bU aA.length 90000&&(bg 0 (8:Int)&&bg (8:Int) 8))) (k2 (j8 aA (oN (fA.getD cA.toNat bF) (8:Int))) fA gA (i64.wrap (cA+(1:Int)))))) (k1 aA)
def gf(bA:Int)(k1:Y1)(k3:Y3):R:=ai (bz bA hA) (aU (dV bA dA.length) (aU (lU bA.toNat dA.length) (aU ((bU aA.length 90000&&(bg 0 (8:Int)&&bg (8:Int) 8))) (k3 (j8 aA (oN (dA.getD bA.toNat bF) (8:Int))) dA hA (i64.wrap (bA+(1:Int))))))) (k1 aA)
abbrev ex:=kf X bd an RR
abbrev it:=nO X bd an RR
def gu:=it dI [1,1,1,0,1,0,1,0,1,1,0,0] (cu 1 (bG eE gW) (cu 0 (bG eE gW) nE))
def nU:=it jY [1,1,1,0,1,0,1,1,1,1,1,0,1,1,1,1,0,0] (cu 3 (bG eE gW) (cu 0 (bG eE gW) nE))
def cQ:=ex [1,1,1,1] RR nE
def f1:R:=dR aA
def f2:Nat->Y2
 |0=>λ_ _ _ _=>none
 |n+1=>λaA fA gA cA=>dQ aA fA gA cA f1 (f2 n)
def f3:Nat->Y3
 |0=>λ_ _ _ _=>none
 |n+1=>λaA dA hA bA=>gf aA dA hA bA f1 (f3 n)
def f0:R:=cX r f1 (f2 100000) (f3 100000)
theorem E1:(λaA=>(hid cQ) ⟨[(4,.cf 4)],[(4,.rows .u8 aA)]⟩)=f1:=by funext aA;refine cm ?_;unfold f1;exact aa
theorem T2:∀n,(λaA fA gA cA=>gu (hid cQ) n (fY aA fA gA cA))=f2 n:=by
 intro n;induction n with
 |zero=>rfl
 |succ n ih=>funext aA fA gA cA;rw[f2];rw[<-E1,<-ih];exact aa
theorem H2:(λaA fA gA cA=>hid (gu (hid cQ) 100000) (fY aA fA gA cA))=f2 100000:=by rw[cM];exact(T2 100000)
theorem T3:∀n,(λaA dA hA bA=>nU (hid cQ) n (nz aA dA hA bA))=f3 n:=by
 intro n;induction n with
 |zero=>rfl
 |succ n ih=>funext aA dA hA bA;rw[f3];rw[<-E1,<-ih];exact aa
theorem H3:(λaA dA hA bA=>hid (nU (hid cQ) 100000) (nz aA dA hA bA))=f3 100000:=by rw[cM];exact(T3 100000)
theorem run:ca X bd an fM [2,3] [] [eA .jt r]=f0 r:=by unfold f0;rw[<-E1,<-H2,<-H3];exact aa
theorem h_(hl:l.length<=300): ∀(n i:Nat) (out:ah UInt8),l.length<n+i->i<=l.length->out.length<=1000+8*i->f2 n out l (Int.ofNat l.length) (i:Int)=uJ (out++pR (l.drop i)):=by
 intro n;induction n with
 |zero=>intro i s h1 h2;omega
 |succ n ih=>
  intro i out h1 h2 h3;show dQ out l (Int.ofNat l.length) (i:Int) f1 (f2 n)=_;unfold dQ;by_cases hi:i<l.length
  ·have e:(j8 out (oN l[i] 8)).length=out.length+8:=by
    show(out++ep l[i] 8).length=_;rw[aF,dY]
   rw[eh (by simp;omega),c9 hi,toNat_nat,bQ hi,eY i ab,c_ (show out.length<=90000 by omega),ih (i+1) _ ab hi ab,fK hi]
   show uJ ((out++ep l[i] 8)++pR (l.drop (i+1)))=_;rw[b_]
   rfl
  ·have:i=l.length:=ab
   subst this;rw[dF ae,bH]
   show uJ out=_;simp[pR]
theorem sZ(hl:l.length<=300): ∀(n i:Nat) (out:ah UInt8),l.length<n+i->i<=l.length->out.length<=1000+8*i->f3 n out l (Int.ofNat l.length) (i:Int)=uJ (out++pR (l.drop i)):=by
 intro n;induction n with
 |zero=>intro i s h1 h2;omega
 |succ n ih=>
  intro i out h1 h2 h3;show gf out l (Int.ofNat l.length) (i:Int) f1 (f3 n)=_;unfold gf;by_cases hi:i<l.length
  ·have e:(j8 out (oN l[i] 8)).length=out.length+8:=by
    show(out++ep l[i] 8).length=_;rw[aF,dY]
   rw[eh (by simp;omega),c9 hi,toNat_nat,pw hi,bQ hi,eY i ab,c_ (show out.length<=90000 by omega),ih (i+1) _ ab hi ab,fK hi]
   show uJ ((out++ep l[i] 8)++pR (l.drop (i+1)))=_;rw[b_]
   rfl
  ·have:i=l.length:=ab
   subst this;rw[dF ae,bH]
   show uJ out=_;simp[pR]
theorem p9(n:Int):([lW n 0]:ah UInt8).length=1:=rfl
theorem t_(a:ah UInt8)(n size:Int):(j8 a (oN n size)).length=a.length+size.toNat:=by show(a++ep n size.toNat).length=_;rw[aF,dY]
theorem Rk{a b c d:Bool}(h1:a=true)(h2:b=true)(h3:c=true)(h4:d=true):((a&&b)&&(c&&d))=true:=by rw[h1,h2,h3,h4];rfl
theorem bD{b:Bool}{x:R}(h:b=true):aU b x=x:=by rw[h];rfl
theorem uI{a:ah UInt8}{s:Int}(h:a.length<=90000)(h0:0<=s)(h1:s<=8):(bU a.length 90000&&(bg 0 s&&bg s 8))=true:=eN (c_ h) (eN (iI h0) (iI h1))
theorem NF(x y:R):aU true (ai (!true) x (aU (true&&true) y))=y:=rfl
theorem k1(a x:R):ai ((1:Int)==1) a x=a:=rfl
theorem k2(a b x:R):ai ((2:Int)==1) a (ai ((2:Int)==2) b x)=b:=rfl
theorem k3(a b c x:R):ai ((3:Int)==1) a (ai ((3:Int)==2) b (ai ((3:Int)==3) c x))=c:=rfl
theorem k4(a b c d x:R):ai ((4:Int)==1) a (ai ((4:Int)==2) b (ai ((4:Int)==3) c (ai ((4:Int)==4) d x)))=d:=rfl
theorem U5(es:Int)(ei:ah Int)(h3:ei.length<=300)(h:tJ (⟨1,es,ei,[],0,[],0,0,0,0,[]⟩:Rec)=true)(hr:jI (⟨1,es,ei,[],0,[],0,0,0,0,[]⟩:Rec)=true):cX (⟨1,es,ei,[],0,[],0,0,0,0,[]⟩:Rec) f1 (f2 100000) (f3 100000)=uJ (fT (⟨1,es,ei,[],0,[],0,0,0,0,[]⟩:Rec)):=by
 unfold cX;rw[h,hr,pj,tQ]
 refine(NF _ _).trans ((k1 _ _).trans ?_)
 have e1:(j8 [lW 1 0] (oN es 4)).length=5:=by rw[t_,p9];rfl
 have e2:(j8 (j8 [lW 1 0] (oN es 4)) (oN (Int.ofNat ei.length) 2)).length=7:=by rw[t_,e1];rfl
 refine(bD (uI (by rw[p9];omega) af af)).trans ((bD (uI (by rw[e1];omega) af af)).trans ?_)
 refine(h_ ei h3 100000 0 _ ab ab (by rw[e2];omega)).trans ?_;rw[fq]
 exact congrArg uJ (show((ep 1 1++ep es 4)++ep (Int.ofNat ei.length) 2)++pR ei=ep 1 1++(ep es 4++(ep (Int.ofNat ei.length) 2++pR ei)) by simp only[b_])
theorem U4(el:ah UInt8)(et:Int)(h3:el.length<=20)(h:tJ (⟨2,0,[],el,et,[],0,0,0,0,[]⟩:Rec)=true)(hr:jI (⟨2,0,[],el,et,[],0,0,0,0,[]⟩:Rec)=true):cX (⟨2,0,[],el,et,[],0,0,0,0,[]⟩:Rec) f1 (f2 100000) (f3 100000)=uJ (fT (⟨2,0,[],el,et,[],0,0,0,0,[]⟩:Rec)):=by
 unfold cX;rw[h,hr,pj,tQ]
 refine(NF _ _).trans ((k2 _ _ _).trans ?_)
 have e1:(j8 [lW 2 0] (oN (Int.ofNat el.length) 1)).length=2:=by rw[t_,p9];rfl
 have e2:(j8 [lW 2 0] (oN (Int.ofNat el.length) 1)++el).length=2+el.length:=by rw[aF,e1]
 refine(bD (uI (by rw[p9];omega) af af)).trans ((bD (Rk (pw (by rw[e1];omega)) (c_ (by rw[e1];dsimp only;omega)) (c_ (by rw[e1];dsimp only;omega)) (c_ (by rw[e1];dsimp only;omega)))).trans ((bD (uI (by rw[e2];omega) af af)).trans ?_))
 exact congrArg uJ (show((ep 2 1++ep (Int.ofNat el.length) 1)++el)++ep et 2=ep 2 1++(ep (Int.ofNat el.length) 1++(el++ep et 2)) by simp only[b_])
theorem Qi(hl:l.length<=300)(out:ah UInt8)(h:out.length<=1000):f3 100000 out l (Int.ofNat l.length) 0=uJ (out++pR l):=sZ l hl 100000 0 out ab ab ab
theorem U3(em:ah UInt8)(eu ea er eo:Int)(h3:em.length<=20)(h:tJ (⟨3,0,[],[],0,em,eu,ea,er,eo,[]⟩:Rec)=true)(hr:jI (⟨3,0,[],[],0,em,eu,ea,er,eo,[]⟩:Rec)=true):cX (⟨3,0,[],[],0,em,eu,ea,er,eo,[]⟩:Rec) f1 (f2 100000) (f3 100000)=uJ (fT (⟨3,0,[],[],0,em,eu,ea,er,eo,[]⟩:Rec)):=by
 unfold cX;rw[h,hr,pj,tQ]
 refine(NF _ _).trans ((k3 _ _ _ _).trans ?_)
 have e1:(j8 [lW 3 0] (oN (Int.ofNat em.length) 1)).length=2:=by rw[t_,p9];rfl
 have e2:(j8 [lW 3 0] (oN (Int.ofNat em.length) 1)++em).length=2+em.length:=by rw[aF,e1]
 refine(bD (uI (by rw[p9];omega) af af)).trans ((bD (Rk (pw (by rw[e1];omega)) (c_ (by rw[e1];dsimp only;omega)) (c_ (by rw[e1];dsimp only;omega)) (c_ (by rw[e1];dsimp only;omega)))).trans ((bD (uI (by rw[e2];omega) af af)).trans ?_))
 have e3:(j8 (j8 [lW 3 0] (oN (Int.ofNat em.length) 1)++em) (oN eu 4)).length<=1000:=by
  rw[t_,e2]
  have:Int.toNat 4=4:=rfl;omega
 refine(Qi [ea,er,eo] (show 3<=300 by omega) _ e3).trans ?_;exact congrArg uJ (show(((ep 3 1++ep (Int.ofNat em.length) 1)++em)++ep eu 4)++pR [ea,er,eo]=ep 3 1++(ep (Int.ofNat em.length) 1++(em++(ep eu 4++pR [ea,er,eo]))) by simp only[b_])
theorem U2(ex:ah UInt8)(h3:ex.length<=500)(h:tJ (⟨4,0,[],[],0,[],0,0,0,0,ex⟩:Rec)=true)(hr:jI (⟨4,0,[],[],0,[],0,0,0,0,ex⟩:Rec)=true):cX (⟨4,0,[],[],0,[],0,0,0,0,ex⟩:Rec) f1 (f2 100000) (f3 100000)=uJ (fT (⟨4,0,[],[],0,[],0,0,0,0,ex⟩:Rec)):=by
 unfold cX;rw[h,hr,pj,tQ]
 refine(NF _ _).trans ((k4 _ _ _ _ _).trans ?_)
 have e1:(j8 [lW 4 0] (oN (Int.ofNat ex.length) 2)).length=3:=by rw[t_,p9];rfl
 refine(bD (uI (by rw[p9];omega) af af)).trans ((bD (Rk (pw (by rw[e1];omega)) (c_ (by rw[e1];dsimp only;omega)) (c_ (by rw[e1];dsimp only;omega)) (c_ (by rw[e1];dsimp only;omega)))).trans ?_)
 exact congrArg uJ (show(ep 4 1++ep (Int.ofNat ex.length) 2)++ex=ep 4 1++(ep (Int.ofNat ex.length) 2++ex) by simp only[b_])
theorem aw(h:tJ r=true):f0 r=some (.bP [.au .u8 (CP r),.int .i64 (JH r)],[]):=by
 unfold CP JH;cases hr:jI r with
 |false=>
  show cX r f1 (f2 100000) (f3 100000)=_;unfold cX;rw[h,hr]
  rfl
 |true=>
  rcases qJ hr with⟨es,ei,rfl,_,_,h3,_⟩|⟨el,et,rfl,h3,_⟩|⟨em,eu,ea,er,eo,rfl,h3,_⟩|⟨ex,rfl,h3⟩
  ·exact U5 es ei h3 h hr
  ·exact U4 el et h3 h hr
  ·exact U3 em eu ea er eo h3 h hr
  ·exact U2 ex h3 h hr
theorem ok:bp prog X:=fV lq (yj xg.c.ok KE) (ZQ ⟨put.du,put.vE⟩ pD)
def c:Ct:=⟨42,cj (A1 (aR .jt) λr=>(tJ r,(.bP [.au .u8 (CP r),.int .i64 (JH r)]))),HI (X:=X) ok (jx _ (Ja (kU ok put.du) MS)) call42 func42 (a1 λr e_=>(run r).trans (aw r e_))⟩
end encode
def yb(p:Prop):Bool:=@decide p (Classical.propDecidable p)
theorem eP{p:Prop}:yb p=true↔p:=by unfold yb;exact @decide_eq_true_iff p (Classical.propDecidable p)
theorem rd{a t:ah UInt8}{n:Int}(h:(a.length:Int)=n):l9 (a++t) false n=false/\Dl (a++t) false n=a/\lF (a++t) false n=t/\j4 (a++t) false n=F9 a:=by
 subst h;have e:l9 (a++t) false (a.length:Int)=false:=by
  show bz (Int.ofNat (a++t).length) _=false;exact dF (by rw[aF];show¬((a.length+t.length:Nat):Int)<_;omega)
 have e2:Dl (a++t) false (a.length:Int)=a:=by
  unfold Dl;rw[e]
  simp[sub]
 refine⟨e,e2,?_,by unfold j4;rw[e2]⟩
 unfold lF;rw[e]
 simp[sub]
 rw[show((a.length:Int)+t.length).toNat-a.length=t.length by omega,List.take_length]
theorem RD(n:Int)(k:Nat)(t:ah UInt8):l9 (ep n k++t) false (k:Int)=false/\lF (ep n k++t) false (k:Int)=t/\j4 (ep n k++t) false (k:Int)=F9 (ep n k):=by
 obtain⟨a,_,c,d⟩:=rd (a:=ep n k) (t:=t) (n:=(k:Int)) (by rw[dY])
 exact⟨a,c,d⟩
theorem Vk{a t:ah UInt8}{n:Int}(h:n=(a.length:Int)):l9 (a++t) false n=false/\Dl (a++t) false n=a/\lF (a++t) false n=t:=by obtain⟨x,b,c,d⟩:=rd (a:=a) (t:=t) h.symm;exact⟨x,b,c⟩
def Il(b:ah UInt8):Bool:=yb (∃r,jI r=true/\b=fT r)
theorem c3{a b c:Bool}(h1:a=true)(h2:b=true)(h3:c=true):(a&&(b&&c))=true:=by rw[h1,h2,h3];rfl
theorem c2{a b:Bool}(h1:a=true)(h2:b=true):(a&&b)=true:=by rw[h1,h2];rfl
theorem bT{b:Bool}{x y:R}(h:b=false):ai b x y=y:=by rw[h];rfl
theorem dW{b:Bool}{x y:R}(h:b=true):ai b x y=x:=by rw[h];rfl
def qE(p:Rec×Int):Fin U El:=(.bP [.agg [.int .i64 p.1.ek,.int .i64 p.1.es,.au .int p.1.ei,.str p.1.el,.int .i64 p.1.et,.str p.1.em,.int .i64 p.1.eu,.int .i64 p.1.ea,.int .i64 p.1.er,.int .i64 p.1.eo,.str p.1.ex],.int .i64 p.2],[])
instance:Nonempty (Rec×Int):=⟨(⟨0,0,[],[],0,[],0,0,0,0,[]⟩,0)⟩
theorem PZ{a b:Rec×Int}(h:qE a=qE b):a=b:=by obtain⟨⟨a1,a2,a3,a4,a5,a6,a7,a8,a9,a10,a11⟩,a12⟩:=a;obtain⟨⟨b1,b2,b3,b4,b5,b6,b7,b8,b9,b10,b11⟩,b12⟩:=b;simp only[qE,dw,AV.bP.injEq,AV.agg.injEq,kC,AV.int.injEq,AV.str.injEq,AV.au.injEq,heq_eq_eq,true_and,and_true]at h;obtain⟨⟨h1,h2,h3,h4,h5,h6,h7,h8,h9,Q6,h11⟩,VN⟩:=h;have h3:a3=b3:=eq_of_heq (AV.au.inj h3).2;subst h1 h2 h3 h4 h5 h6 h7 h8 h9 Q6 h11 VN;rfl
namespace decode
variable(xA yA nA oA:Int)(pA:ah UInt8)(qA:Int)(rA:ah UInt8)(sA tA uA vA:Int)(dA:ah UInt8)(es:Int)(ei:ah Int)(iP:bn U El)(b:ah UInt8)(r:Rec)
def X:Ctx U El:=⟨E,iH,zeros,eqs,lr [(52,xg.c.s)],100000,100,js [(97,D0.sp)],lO [(97,sY D0.sp),(98,sY take.sp)],λ_=>none⟩
def bd:=dG f49
def fM:Norm U:=⟨[],[100,3],[],[],[],[(100,2,.int)],[]⟩
def RR:bn U El:=λst=>fz X 100 [(2,42)] 100 st λst=>cN fM st (ch [100,3] [])
def eE:Norm U:=⟨[],[2,4,5],[2,5,8],[],[],[],[(8,0,.u8)]⟩
def dI:Norm U:=⟨[],[2,4,5],[2,5,8,500000502],[],[(5,2,.int,500000502)],[],[(8,0,.u8)]⟩
def xT:Norm U:=⟨[],[2,4,5,21,22],[2,5,8,500000502],[],[(5,2,.int,500000502)],[],[(8,0,.u8)]⟩
def an:gb U:=(.seq none .d (.seq none .d (.seq (some eE) .d (.seq (some dI) (.seq none .d (.block (.seq none .d (.cond (.seq (some eE) .d (.seq none .d (.block (.loop xT (.seq none .d (.seq none .d (.seq none (.block (.seq none (.region [(3,8),(5,500000502),(7,5)]) .d)) .d))))))) (.seq none .d (.cond (.seq (some eE) .d .d) (.seq none .d (.cond (.seq (some eE) .d (.seq (some eE) .d .d)) .d)))))))) (.seq (some (⟨[],[2,5],[2,5,500000502],[],[(5,2,.int,500000502)],[],[]⟩)) .d .d)))))
abbrev Y1:=Int->Int->(ah UInt8)->Int->(ah UInt8)->Int->Int->Int->Int->(ah UInt8)->Int->Int->(ah UInt8)->Int->(ah UInt8)->Int->Int->Int->Int->(ah UInt8)->(ah UInt8)->Bool->R
abbrev Y2:=Int->Int->(ah UInt8)->Int->(ah UInt8)->Int->Int->Int->Int->(ah UInt8)->Int->Int->(ah Int)->(ah UInt8)->Int->(ah UInt8)->Int->Int->Int->Int->(ah UInt8)->(ah UInt8)->Bool->R
abbrev Y3:=Int->Int->(ah UInt8)->Int->(ah UInt8)->Int->Int->Int->Int->(ah UInt8)->Int->Int->(ah UInt8)->Int->(ah UInt8)->Int->Int->Int->Int->(ah UInt8)->(ah UInt8)->Bool->R
abbrev Y4:=Int->Int->Int->Int->(ah UInt8)->Int->(ah UInt8)->Int->Int->Int->Int->(ah UInt8)->Int->Int->(ah Int)->(ah UInt8)->Int->(ah UInt8)->Int->Int->Int->Int->(ah UInt8)->(ah UInt8)->Bool->R
abbrev Y5:=Int->Int->(ah UInt8)->Int->(ah UInt8)->Int->Int->Int->Int->(ah UInt8)->Int->Int->(ah UInt8)->Int->(ah UInt8)->Int->Int->Int->Int->(ah UInt8)->(ah UInt8)->Bool->R
abbrev Y6:=Int->Int->(ah UInt8)->Int->(ah UInt8)->Int->Int->Int->Int->(ah UInt8)->Int->Int->(ah UInt8)->Int->(ah UInt8)->Int->Int->Int->Int->(ah UInt8)->(ah UInt8)->Bool->R
abbrev Y7:=Int->Int->(ah UInt8)->Int->(ah UInt8)->Int->Int->Int->Int->(ah UInt8)->Int->Int->(ah UInt8)->Int->(ah UInt8)->Int->Int->Int->Int->(ah UInt8)->(ah UInt8)->Bool->R
abbrev Y8:=Int->Int->(ah UInt8)->Int->(ah UInt8)->Int->Int->Int->Int->(ah UInt8)->Int->Int->(ah Int)->(ah UInt8)->Int->(ah UInt8)->Int->Int->Int->Int->(ah UInt8)->R
def J1(eA fA:Int)(wA:ah Int)(gA:ah UInt8)(hA:Int)(iA:ah UInt8)(jA kA lA mA:Int)(cA aA:ah UInt8)(bA:Bool):St U El:=⟨[(2,.ptr 2 0),(4,.ptr 8 0),(5,.ptr 5 0),(21,.int .i64 xA),(22,.int .i64 yA)],[(2,.box 0 [.int .i64 nA,.int .i64 oA,.cL,.str pA,.int .i64 qA,.str rA,.int .i64 sA,.int .i64 tA,.int .i64 uA,.int .i64 vA,.str dA]),(5,.box 0 [.int .i64 eA,.int .i64 fA,.cf 500000502,.str gA,.int .i64 hA,.str iA,.int .i64 jA,.int .i64 kA,.int .i64 lA,.int .i64 mA,.str cA]),(8,.box 0 [.au .u8 aA,.bool bA]),(500000502,.rows .int wA)]⟩
def cX(k1:Y1):R:=aU ((bg 0 (1:Int)&&(bg (1:Int) 8&&bU b.length 90000))) (k1 (0:Int) (0:Int) ([]:ah UInt8) (0:Int) ([]:ah UInt8) (0:Int) (0:Int) (0:Int) (0:Int) ([]:ah UInt8) (j4 b false (1:Int)) (0:Int) ([]:ah UInt8) (0:Int) ([]:ah UInt8) (0:Int) (0:Int) (0:Int) (0:Int) ([]:ah UInt8) (lF b false (1:Int)) (l9 b false (1:Int)))
def dR(eA fA:Int)(gA:ah UInt8)(hA:Int)(iA:ah UInt8)(jA kA lA mA:Int)(cA aA:ah UInt8)(bA:Bool)(k2:Y2)(k3:Y3)(k5:Y5)(k6:Y6):R:=ai (eA==(1:Int)) (aU ((bg 0 (4:Int)&&(bg (4:Int) 8&&bU aA.length 90000))) (k3 nA oA pA qA rA sA tA uA vA dA eA (j4 aA bA (4:Int)) gA hA iA jA kA lA mA cA (lF aA bA (4:Int)) (l9 aA bA (4:Int)))) (ai (eA==(2:Int)) (aU ((bg 0 (1:Int)&&(bg (1:Int) 8&&bU aA.length 90000))) (aU ((bg 0 (j4 aA bA (1:Int))&&bU (List.length (lF aA bA (1:Int))) 90000)) (k5 nA oA pA qA rA sA tA uA vA dA eA fA (Dl (lF aA bA (1:Int)) (l9 aA bA (1:Int)) (j4 aA bA (1:Int))) hA iA jA kA lA mA cA (lF (lF aA bA (1:Int)) (l9 aA bA (1:Int)) (j4 aA bA (1:Int))) (l9 (lF aA bA (1:Int)) (l9 aA bA (1:Int)) (j4 aA bA (1:Int)))))) (ai (eA==(3:Int)) (aU ((bg 0 (1:Int)&&(bg (1:Int) 8&&bU aA.length 90000))) (aU ((bg 0 (j4 aA bA (1:Int))&&bU (List.length (lF aA bA (1:Int))) 90000)) (k6 nA oA pA qA rA sA tA uA vA dA eA fA gA hA (Dl (lF aA bA (1:Int)) (l9 aA bA (1:Int)) (j4 aA bA (1:Int))) jA kA lA mA cA (lF (lF aA bA (1:Int)) (l9 aA bA (1:Int)) (j4 aA bA (1:Int))) (l9 (lF aA bA (1:Int)) (l9 aA bA (1:Int)) (j4 aA bA (1:Int)))))) (ai (eA==(4:Int)) (aU ((bg 0 (2:Int)&&(bg (2:Int) 8&&bU aA.length 90000))) (aU ((bg 0 (j4 aA bA (2:Int))&&bU (List.length (lF aA bA (2:Int))) 90000)) (k2 nA oA pA qA rA sA tA uA vA dA eA fA ([]:ah Int) gA hA iA jA kA lA mA (Dl (lF aA bA (2:Int)) (l9 aA bA (2:Int)) (j4 aA bA (2:Int))) (lF (lF aA bA (2:Int)) (l9 aA bA (2:Int)) (j4 aA bA (2:Int))) (l9 (lF aA bA (2:Int)) (l9 aA bA (2:Int)) (j4 aA bA (2:Int)))))) (some ((.bP [(.agg [.int .i64 (0:Int),.int .i64 (0:Int),(.au .int ([]:ah Int)),(.str ([]:ah UInt8)),.int .i64 (0:Int),(.str ([]:ah UInt8)),.int .i64 (0:Int),.int .i64 (0:Int),.int .i64 (0:Int),.int .i64 (0:Int),(.str ([]:ah UInt8))]),.int .i64 (7:Int)]),[])))))
def dQ(eA fA:Int)(wA:ah Int)(gA:ah UInt8)(hA:Int)(iA:ah UInt8)(jA kA lA mA:Int)(cA aA:ah UInt8)(bA:Bool)(k8:Y8):R:=ai bA (some ((.bP [(.agg [.int .i64 (0:Int),.int .i64 (0:Int),(.au .int ([]:ah Int)),(.str ([]:ah UInt8)),.int .i64 (0:Int),(.str ([]:ah UInt8)),.int .i64 (0:Int),.int .i64 (0:Int),.int .i64 (0:Int),.int .i64 (0:Int),(.str ([]:ah UInt8))]),.int .i64 (7:Int)]),[])) (ai (bz (0:Int) (Int.ofNat aA.length)) (some ((.bP [(.agg [.int .i64 (0:Int),.int .i64 (0:Int),(.au .int ([]:ah Int)),(.str ([]:ah UInt8)),.int .i64 (0:Int),(.str ([]:ah UInt8)),.int .i64 (0:Int),.int .i64 (0:Int),.int .i64 (0:Int),.int .i64 (0:Int),(.str ([]:ah UInt8))]),.int .i64 (7:Int)]),[])) (aU (tJ (⟨eA,fA,wA,gA,hA,iA,jA,kA,lA,mA,cA⟩:Rec)) (ai (!(jI (⟨eA,fA,wA,gA,hA,iA,jA,kA,lA,mA,cA⟩:Rec))) (some ((.bP [(.agg [.int .i64 (0:Int),.int .i64 (0:Int),(.au .int ([]:ah Int)),(.str ([]:ah UInt8)),.int .i64 (0:Int),(.str ([]:ah UInt8)),.int .i64 (0:Int),.int .i64 (0:Int),.int .i64 (0:Int),.int .i64 (0:Int),(.str ([]:ah UInt8))]),.int .i64 (1:Int)]),[])) (k8 nA oA pA qA rA sA tA uA vA dA eA fA wA gA hA iA jA kA lA mA cA))))
def gf(eA fA:Int)(gA:ah UInt8)(hA:Int)(iA:ah UInt8)(jA kA lA mA:Int)(cA aA:ah UInt8)(bA:Bool)(k4:Y4):R:=aU ((bg 0 (2:Int)&&(bg (2:Int) 8&&bU aA.length 90000))) (k4 (j4 aA bA (2:Int)) (0:Int) nA oA pA qA rA sA tA uA vA dA eA fA ([]:ah Int) gA hA iA jA kA lA mA cA (lF aA bA (2:Int)) (l9 aA bA (2:Int)))
def l_(eA fA:Int)(wA:ah Int)(gA:ah UInt8)(hA:Int)(iA:ah UInt8)(jA kA lA mA:Int)(cA aA:ah UInt8)(bA:Bool)(k2:Y2)(k4:Y4):R:=ai (bz yA xA) (aU ((bg 0 (8:Int)&&(bg (8:Int) 8&&bU aA.length 90000))) (aU (bU ((List.length wA+List.length ([j4 aA bA (8:Int)]:ah Int))*8) 140737488355328&&bU (List.length wA+List.length ([j4 aA bA (8:Int)]:ah Int)) 9223372036854775807) (ai (l9 aA bA (8:Int)) (k2 nA oA pA qA rA sA tA uA vA dA eA fA (wA++([j4 aA bA (8:Int)]:ah Int)) gA hA iA jA kA lA mA cA (lF aA bA (8:Int)) (l9 aA bA (8:Int))) (k4 xA (i64.wrap (yA+(1:Int))) nA oA pA qA rA sA tA uA vA dA eA fA (wA++([j4 aA bA (8:Int)]:ah Int)) gA hA iA jA kA lA mA cA (lF aA bA (8:Int)) (l9 aA bA (8:Int)))))) (k2 nA oA pA qA rA sA tA uA vA dA eA fA wA gA hA iA jA kA lA mA cA aA bA)
def sk(eA fA:Int)(gA:ah UInt8)(hA:Int)(iA:ah UInt8)(jA kA lA mA:Int)(cA aA:ah UInt8)(bA:Bool)(k2:Y2):R:=aU ((bg 0 (2:Int)&&(bg (2:Int) 8&&bU aA.length 90000))) (k2 nA oA pA qA rA sA tA uA vA dA eA fA ([]:ah Int) gA (j4 aA bA (2:Int)) iA jA kA lA mA cA (lF aA bA (2:Int)) (l9 aA bA (2:Int)))
def pQ(eA fA:Int)(gA:ah UInt8)(hA:Int)(iA:ah UInt8)(jA kA lA mA:Int)(cA aA:ah UInt8)(bA:Bool)(k7:Y7):R:=aU ((bg 0 (4:Int)&&(bg (4:Int) 8&&bU aA.length 90000))) (k7 nA oA pA qA rA sA tA uA vA dA eA fA gA hA iA (j4 aA bA (4:Int)) kA lA mA cA (lF aA bA (4:Int)) (l9 aA bA (4:Int)))
def wS(eA fA:Int)(gA:ah UInt8)(hA:Int)(iA:ah UInt8)(jA kA lA mA:Int)(cA aA:ah UInt8)(bA:Bool)(k2:Y2):R:=aU ((bg 0 (8:Int)&&(bg (8:Int) 8&&bU aA.length 90000))) (aU ((bg 0 (8:Int)&&(bg (8:Int) 8&&bU (List.length (lF aA bA (8:Int))) 90000))) (aU ((bg 0 (8:Int)&&(bg (8:Int) 8&&bU (List.length (lF (lF aA bA (8:Int)) (l9 aA bA (8:Int)) (8:Int))) 90000))) (k2 nA oA pA qA rA sA tA uA vA dA eA fA ([]:ah Int) gA hA iA jA (j4 aA bA (8:Int)) (j4 (lF aA bA (8:Int)) (l9 aA bA (8:Int)) (8:Int)) (j4 (lF (lF aA bA (8:Int)) (l9 aA bA (8:Int)) (8:Int)) (l9 (lF aA bA (8:Int)) (l9 aA bA (8:Int)) (8:Int)) (8:Int)) cA (lF (lF (lF aA bA (8:Int)) (l9 aA bA (8:Int)) (8:Int)) (l9 (lF aA bA (8:Int)) (l9 aA bA (8:Int)) (8:Int)) (8:Int)) (l9 (lF (lF aA bA (8:Int)) (l9 aA bA (8:Int)) (8:Int)) (l9 (lF aA bA (8:Int)) (l9 aA bA (8:Int)) (8:Int)) (8:Int)))))
def BF(nA oA:Int)(pA:ah UInt8)(qA:Int)(rA:ah UInt8)(sA tA uA vA:Int)(dA:ah UInt8)(eA fA:Int)(wA:ah Int)(gA:ah UInt8)(hA:Int)(iA:ah UInt8)(jA kA lA mA:Int)(cA:ah UInt8):R:=some ((.bP [.agg [.int .i64 eA,.int .i64 fA,.au .int wA,.str gA,.int .i64 hA,.str iA,.int .i64 jA,.int .i64 kA,.int .i64 lA,.int .i64 mA,.str cA],.int .i64 (0:Int)]),[])
abbrev ex:=kf X bd an RR
abbrev it:=nO X bd an RR
def JY:=it xT [1,1,1,0,1,0,1,0,1,1,0,0] (cu 1 (bG dI iP) (cu 0 (bG dI iP) nE))
def cQ:=ex [1,1,1] RR nE
def ib:=ex [1,1,1,1] RR nE
def mz:=ex [1,1,1,0,1,0,1,0,1] (bG dI iP) (cu 0 (bG dI iP) nE)
def rb:=ex [1,1,1,0,1,0,1,1,1,0,1] (bG dI iP) (cu 0 (bG dI iP) nE)
def ui:=ex [1,1,1,0,1,0,1,1,1,1,1,0,1] (bG dI iP) (cu 0 (bG dI iP) nE)
def GP:=ex [1,1,1,0,1,0,1,1,1,1,1,0,1,1] (bG dI iP) (cu 0 (bG dI iP) nE)
def B5:=ex [1,1,1,1,1] RR nE
def f8(eA fA:Int)(wA:ah Int)(gA:ah UInt8)(hA:Int)(iA:ah UInt8)(jA kA lA mA:Int)(cA:ah UInt8):R:=BF nA oA pA qA rA sA tA uA vA dA eA fA wA gA hA iA jA kA lA mA cA
def f2(eA fA:Int)(wA:ah Int)(gA:ah UInt8)(hA:Int)(iA:ah UInt8)(jA kA lA mA:Int)(cA aA:ah UInt8)(bA:Bool):R:=dQ nA oA pA qA rA sA tA uA vA dA eA fA wA gA hA iA jA kA lA mA cA aA bA f8
def f4:Nat->Y4
 |0=>λ_ _ _ _ _ _ _ _ _ _ _ _ _ _ _ _ _ _ _ _ _ _ _ _ _=>none
 |n+1=>λxA yA nA oA pA qA rA sA tA uA vA dA eA fA wA gA hA iA jA kA lA mA cA aA bA=>l_ xA yA nA oA pA qA rA sA tA uA vA dA eA fA wA gA hA iA jA kA lA mA cA aA bA f2 (f4 n)
def f3(eA fA:Int)(gA:ah UInt8)(hA:Int)(iA:ah UInt8)(jA kA lA mA:Int)(cA aA:ah UInt8)(bA:Bool):R:=gf nA oA pA qA rA sA tA uA vA dA eA fA gA hA iA jA kA lA mA cA aA bA (f4 100000)
def f5(eA fA:Int)(gA:ah UInt8)(hA:Int)(iA:ah UInt8)(jA kA lA mA:Int)(cA aA:ah UInt8)(bA:Bool):R:=sk nA oA pA qA rA sA tA uA vA dA eA fA gA hA iA jA kA lA mA cA aA bA f2
def f7(eA fA:Int)(gA:ah UInt8)(hA:Int)(iA:ah UInt8)(jA kA lA mA:Int)(cA aA:ah UInt8)(bA:Bool):R:=wS nA oA pA qA rA sA tA uA vA dA eA fA gA hA iA jA kA lA mA cA aA bA f2
def f6(eA fA:Int)(gA:ah UInt8)(hA:Int)(iA:ah UInt8)(jA kA lA mA:Int)(cA aA:ah UInt8)(bA:Bool):R:=pQ nA oA pA qA rA sA tA uA vA dA eA fA gA hA iA jA kA lA mA cA aA bA f7
def f1(eA fA:Int)(gA:ah UInt8)(hA:Int)(iA:ah UInt8)(jA kA lA mA:Int)(cA aA:ah UInt8)(bA:Bool):R:=dR nA oA pA qA rA sA tA uA vA dA eA fA gA hA iA jA kA lA mA cA aA bA f2 f3 f5 f6
def f0:R:=cX b f1
theorem E8:(λnA oA pA qA rA sA tA uA vA dA eA fA wA gA hA iA jA kA lA mA cA=>(hid B5) ⟨[(2,.ptr 2 0),(5,.ptr 5 0)],[(2,.box 0 [.int .i64 nA,.int .i64 oA,.cL,.str pA,.int .i64 qA,.str rA,.int .i64 sA,.int .i64 tA,.int .i64 uA,.int .i64 vA,.str dA]),(5,.box 0 [.int .i64 eA,.int .i64 fA,.cf 500000502,.str gA,.int .i64 hA,.str iA,.int .i64 jA,.int .i64 kA,.int .i64 lA,.int .i64 mA,.str cA]),(500000502,.rows .int wA)]⟩)=f8:=by funext nA oA pA qA rA sA tA uA vA dA eA fA wA gA hA iA jA kA lA mA cA;refine cm ?_;unfold f8;exact aa
theorem E2:(λnA oA pA qA rA sA tA uA vA dA eA fA wA gA hA iA jA kA lA mA cA aA bA=>(hid ib) ⟨[(2,.ptr 2 0),(4,.ptr 8 0),(5,.ptr 5 0)],[(2,.box 0 [.int .i64 nA,.int .i64 oA,.cL,.str pA,.int .i64 qA,.str rA,.int .i64 sA,.int .i64 tA,.int .i64 uA,.int .i64 vA,.str dA]),(5,.box 0 [.int .i64 eA,.int .i64 fA,.cf 500000502,.str gA,.int .i64 hA,.str iA,.int .i64 jA,.int .i64 kA,.int .i64 lA,.int .i64 mA,.str cA]),(8,.box 0 [.au .u8 aA,.bool bA]),(500000502,.rows .int wA)]⟩)=f2:=by funext nA oA pA qA rA sA tA uA vA dA eA fA wA gA hA iA jA kA lA mA cA aA bA;refine cm ?_;unfold f2;rw[<-E8];exact aa
theorem T4:∀n,(λxA yA nA oA pA qA rA sA tA uA vA dA eA fA wA gA hA iA jA kA lA mA cA aA bA=>JY (hid ib) n (J1 xA yA nA oA pA qA rA sA tA uA vA dA eA fA wA gA hA iA jA kA lA mA cA aA bA))=f4 n:=by
 intro n;induction n with
 |zero=>rfl
 |succ n ih=>funext xA yA nA oA pA qA rA sA tA uA vA dA eA fA wA gA hA iA jA kA lA mA cA aA bA;rw[f4];rw[<-E2,<-ih];exact aa
theorem H4:(λxA yA nA oA pA qA rA sA tA uA vA dA eA fA wA gA hA iA jA kA lA mA cA aA bA=>hid (JY (hid ib) 100000) (J1 xA yA nA oA pA qA rA sA tA uA vA dA eA fA wA gA hA iA jA kA lA mA cA aA bA))=f4 100000:=by rw[cM];exact(T4 100000)
theorem E3:(λnA oA pA qA rA sA tA uA vA dA eA fA gA hA iA jA kA lA mA cA aA bA=>(hid (mz (hid ib))) ⟨[(2,.ptr 2 0),(4,.ptr 8 0),(5,.ptr 5 0)],[(2,.box 0 [.int .i64 nA,.int .i64 oA,.cL,.str pA,.int .i64 qA,.str rA,.int .i64 sA,.int .i64 tA,.int .i64 uA,.int .i64 vA,.str dA]),(5,.box 0 [.int .i64 eA,.int .i64 fA,.cL,.str gA,.int .i64 hA,.str iA,.int .i64 jA,.int .i64 kA,.int .i64 lA,.int .i64 mA,.str cA]),(8,.box 0 [.au .u8 aA,.bool bA])]⟩)=f3:=by funext nA oA pA qA rA sA tA uA vA dA eA fA gA hA iA jA kA lA mA cA aA bA;refine cm ?_;unfold f3;rw[<-H4];exact aa
theorem E5:(λnA oA pA qA rA sA tA uA vA dA eA fA gA hA iA jA kA lA mA cA aA bA=>(hid (rb (hid ib))) ⟨[(2,.ptr 2 0),(4,.ptr 8 0),(5,.ptr 5 0)],[(2,.box 0 [.int .i64 nA,.int .i64 oA,.cL,.str pA,.int .i64 qA,.str rA,.int .i64 sA,.int .i64 tA,.int .i64 uA,.int .i64 vA,.str dA]),(5,.box 0 [.int .i64 eA,.int .i64 fA,.cL,.str gA,.int .i64 hA,.str iA,.int .i64 jA,.int .i64 kA,.int .i64 lA,.int .i64 mA,.str cA]),(8,.box 0 [.au .u8 aA,.bool bA])]⟩)=f5:=by funext nA oA pA qA rA sA tA uA vA dA eA fA gA hA iA jA kA lA mA cA aA bA;refine cm ?_;unfold f5;rw[<-E2];exact aa
theorem E7:(λnA oA pA qA rA sA tA uA vA dA eA fA gA hA iA jA kA lA mA cA aA bA=>(hid (GP (hid ib))) ⟨[(2,.ptr 2 0),(4,.ptr 8 0),(5,.ptr 5 0)],[(2,.box 0 [.int .i64 nA,.int .i64 oA,.cL,.str pA,.int .i64 qA,.str rA,.int .i64 sA,.int .i64 tA,.int .i64 uA,.int .i64 vA,.str dA]),(5,.box 0 [.int .i64 eA,.int .i64 fA,.cL,.str gA,.int .i64 hA,.str iA,.int .i64 jA,.int .i64 kA,.int .i64 lA,.int .i64 mA,.str cA]),(8,.box 0 [.au .u8 aA,.bool bA])]⟩)=f7:=by funext nA oA pA qA rA sA tA uA vA dA eA fA gA hA iA jA kA lA mA cA aA bA;refine cm ?_;unfold f7;rw[<-E2];exact aa
theorem E6:(λnA oA pA qA rA sA tA uA vA dA eA fA gA hA iA jA kA lA mA cA aA bA=>(hid (ui (hid ib))) ⟨[(2,.ptr 2 0),(4,.ptr 8 0),(5,.ptr 5 0)],[(2,.box 0 [.int .i64 nA,.int .i64 oA,.cL,.str pA,.int .i64 qA,.str rA,.int .i64 sA,.int .i64 tA,.int .i64 uA,.int .i64 vA,.str dA]),(5,.box 0 [.int .i64 eA,.int .i64 fA,.cL,.str gA,.int .i64 hA,.str iA,.int .i64 jA,.int .i64 kA,.int .i64 lA,.int .i64 mA,.str cA]),(8,.box 0 [.au .u8 aA,.bool bA])]⟩)=f6:=by funext nA oA pA qA rA sA tA uA vA dA eA fA gA hA iA jA kA lA mA cA aA bA;refine cm ?_;unfold f6;rw[<-E7];exact aa
theorem E1:(λnA oA pA qA rA sA tA uA vA dA eA fA gA hA iA jA kA lA mA cA aA bA=>(hid cQ) ⟨[(2,.ptr 2 0),(4,.ptr 8 0),(5,.ptr 5 0)],[(2,.box 0 [.int .i64 nA,.int .i64 oA,.cL,.str pA,.int .i64 qA,.str rA,.int .i64 sA,.int .i64 tA,.int .i64 uA,.int .i64 vA,.str dA]),(5,.box 0 [.int .i64 eA,.int .i64 fA,.cL,.str gA,.int .i64 hA,.str iA,.int .i64 jA,.int .i64 kA,.int .i64 lA,.int .i64 mA,.str cA]),(8,.box 0 [.au .u8 aA,.bool bA])]⟩)=f1:=by funext nA oA pA qA rA sA tA uA vA dA eA fA gA hA iA jA kA lA mA cA aA bA;refine cm ?_;unfold f1;rw[<-E2,<-E3,<-E5,<-E6];exact aa
theorem run:gH X bd an fM [(2,42)] [100,3] [] [.au .u8 b]=f0 b:=by unfold f0;rw[<-E1];exact aa
theorem Rc(h:jI r=true)(hk:tJ r=true):f2 0 0 [] 0 [] 0 0 0 0 [] r.ek r.es r.ei r.el r.et r.em r.eu r.ea r.er r.eo r.ex [] false=some (qE (r,0)):=by
 show dQ 0 0 [] 0 [] 0 0 0 0 [] r.ek r.es r.ei r.el r.et r.em r.eu r.ea r.er r.eo r.ex [] false f8=_;unfold dQ;refine(bT rfl).trans ((bT rfl).trans ((encode.bD hk).trans ((bT (by rw[h];rfl)).trans ?_)))
 rfl
theorem Li(hl:ei.length<=300)(hv:kr 1125899906842624 ei): ∀(m i:Nat) (out:ah Int),ei.length<m+i->i<=ei.length->out.length=i->
 f4 m (ei.length:Int) (i:Int) 0 0 [] 0 [] 0 0 0 0 [] 1 es out [] 0 [] 0 0 0 0 [] (pR (ei.drop i)) false=f2 0 0 [] 0 [] 0 0 0 0 [] 1 es (out++ei.drop i) [] 0 [] 0 0 0 0 [] [] false:=by
 intro m;induction m with
 |zero=>intro i out h1 h2;omega
 |succ m ih=>
  intro i out h1 h2 h3;show l_ (ei.length:Int) (i:Int) 0 0 [] 0 [] 0 0 0 0 [] 1 es out [] 0 [] 0 0 0 0 [] (pR (ei.drop i)) false f2 (f4 m)=_;unfold l_;by_cases hi:i<ei.length
  ·have e:pR (ei.drop i)=ep ei[i] 8++pR (ei.drop (i+1)):=by rw[fK hi];rfl
   obtain⟨r1,r2,r3⟩:=RD ei[i] 8 (pR (ei.drop (i+1)))
   have hlen:(ep ei[i] 8++pR (ei.drop (i+1))).length<=90000:=by
    rw[aF,dY,tZ,fE];omega
   have eC:=hv.at hi;rw[D1 ab ab]at r3;rw[e]
   refine(dW (eh ab)).trans ((encode.bD (c3 rfl rfl (c_ hlen))).trans ((encode.bD (xq ab)).trans ((bT r1).trans ?_)))
   have r1:l9 (ep ei[i] 8++pR (ei.drop (i+1))) false (8:Int)=false:=r1;have r2:lF (ep ei[i] 8++pR (ei.drop (i+1))) false (8:Int)=pR (ei.drop (i+1)):=r2;have r3:j4 (ep ei[i] 8++pR (ei.drop (i+1))) false (8:Int)=ei[i]:=r3;rw[r1,r2,r3,eY i ab,ih (i+1) _ ab hi (by simp[h3]),fK hi,b_]
   rfl
  ·have:i=ei.length:=ab
   subst this;refine(bT (dF ab)).trans ?_;rw[bH]
   simp only[cU]
   rfl
theorem zI{n:Int}{k:Nat}{t:ah UInt8}(h:t.length<=3000)(hk:k<=8:=by decide):(ep n k++t).length<=90000:=by rw[aF,dY];omega
theorem first(n:Int)(t:ah UInt8)(hn0:0<=n)(hn:n<256)(ht:t.length<=3000):f0 (ep n 1++t)=f1 0 0 [] 0 [] 0 0 0 0 [] n 0 [] 0 [] 0 0 0 0 [] t false:=by obtain⟨r1,r2,r3⟩:=RD n 1 t;rw[vP af hn0 (by simpa using hn)]at r3;show aU _ (f1 0 0 [] 0 [] 0 0 0 0 [] (j4 (ep n 1++t) false 1) 0 [] 0 [] 0 0 0 0 [] (lF (ep n 1++t) false 1) (l9 (ep n 1++t) false 1))=_;refine(encode.bD (c3 rfl rfl (c_ (zI ht)))).trans ?_;have r1:l9 (ep n 1++t) false (1:Int)=false:=r1;have r2:lF (ep n 1++t) false (1:Int)=t:=r2;have r3:j4 (ep n 1++t) false (1:Int)=n:=r3;rw[r1,r2,r3]
theorem Tx(h0:1<=es)(h1:es<=86400)(hl:ei.length<=300)(hv:kr 1125899906842624 ei):f1 0 0 [] 0 [] 0 0 0 0 [] 1 0 [] 0 [] 0 0 0 0 [] (ep es 4++(ep (Int.ofNat ei.length) 2++pR ei)) false=f2 0 0 [] 0 [] 0 0 0 0 [] 1 es ei [] 0 [] 0 0 0 0 [] [] false:=by
 have l1:(pR ei).length<=2990:=by rw[tZ];omega
 have l2:(ep (Int.ofNat ei.length) 2++pR ei).length<=3000:=by rw[aF,dY];omega
 obtain⟨r1,r2,r3⟩:=RD es 4 (ep (Int.ofNat ei.length) 2++pR ei)
 rw[vP af ab (by show es<4294967296;omega)]at r3;obtain⟨s1,s2,s3⟩:=RD (Int.ofNat ei.length) 2 (pR ei)
 rw[vP (n:=Int.ofNat ei.length) af (dy _) (by show(ei.length:Int)<65536;omega)]at s3;show dR 0 0 [] 0 [] 0 0 0 0 [] 1 0 [] 0 [] 0 0 0 0 [] (ep es 4++(ep (Int.ofNat ei.length) 2++pR ei)) false f2 f3 f5 f6=_;unfold dR;refine(dW rfl).trans ((encode.bD (c3 rfl rfl (c_ (zI l2)))).trans ?_)
 have r1:l9 (ep es 4++(ep (Int.ofNat ei.length) 2++pR ei)) false (4:Int)=false:=r1;have r2:lF (ep es 4++(ep (Int.ofNat ei.length) 2++pR ei)) false (4:Int)=(ep (Int.ofNat ei.length) 2++pR ei):=r2;have r3:j4 (ep es 4++(ep (Int.ofNat ei.length) 2++pR ei)) false (4:Int)=es:=r3;rw[r1,r2,r3]
 show gf 0 0 [] 0 [] 0 0 0 0 [] 1 es [] 0 [] 0 0 0 0 [] (ep (Int.ofNat ei.length) 2++pR ei) false (f4 100000)=_;unfold gf;refine(encode.bD (c3 rfl rfl (c_ (zI ab)))).trans ?_;have s1:l9 (ep (Int.ofNat ei.length) 2++pR ei) false (2:Int)=false:=s1;have s2:lF (ep (Int.ofNat ei.length) 2++pR ei) false (2:Int)=pR ei:=s2;have s3:j4 (ep (Int.ofNat ei.length) 2++pR ei) false (2:Int)=(ei.length:Int):=s3;rw[s1,s2,s3]
 exact Li es ei hl hv 100000 0 [] ab ab rfl
theorem O8{n:Int}{k:Nat}{z:Int}(t:ah UInt8)(hz:z=(k:Int))(hk:k<=7)(h0:0<=n)(h1:n<256^k):l9 (ep n k++t) false z=false/\lF (ep n k++t) false z=t/\j4 (ep n k++t) false z=n:=by subst hz;obtain⟨a,b,c⟩:=RD n k t;rw[vP hk h0 h1]at c;exact⟨a,b,c⟩
theorem Wf{n:Int}(t:ah UInt8)(h0: -9223372036854775808<=n)(h1:n<=9223372036854775807):l9 (ep n 8++t) false 8=false/\lF (ep n 8++t) false 8=t/\j4 (ep n 8++t) false 8=n:=by obtain⟨a,b,c⟩:=RD n 8 t;rw[D1 h0 h1]at c;exact⟨a,b,c⟩
theorem Tw(el:ah UInt8)(et:Int)(hl:el.length<=20)(h0:0<=et)(h1:et<=1000):f1 0 0 [] 0 [] 0 0 0 0 [] 2 0 [] 0 [] 0 0 0 0 [] (ep (Int.ofNat el.length) 1++(el++ep et 2)) false=f2 0 0 [] 0 [] 0 0 0 0 [] 2 0 [] el et [] 0 0 0 0 [] [] false:=by
 rw[show ep et 2=ep et 2++[]from(cU _).symm]
 have l1:(el++(ep et 2++[])).length<=3000:=by simp only[aF,dY,eW];omega
 have l2:(ep et 2++([]:ah UInt8)).length<=90000:=by simp only[aF,dY,eW];omega
 obtain⟨r1,r2,r3⟩:=O8 (n:=Int.ofNat el.length) (k:=1) (z:=1) (el++(ep et 2++[])) rfl af (dy _) (by show(el.length:Int)<256;omega)
 obtain⟨q1,q2,q3⟩:=Vk (a:=el) (t:=ep et 2++[]) (n:=Int.ofNat el.length) rfl;obtain⟨s1,s2,s3⟩:=O8 (n:=et) (k:=2) (z:=2) [] rfl af h0 (by show et<65536;omega)
 show dR 0 0 [] 0 [] 0 0 0 0 [] 2 0 [] 0 [] 0 0 0 0 [] (ep (Int.ofNat el.length) 1++(el++(ep et 2++[]))) false f2 f3 f5 f6=_;unfold dR;refine(bT rfl).trans ((dW rfl).trans ((encode.bD (c3 rfl rfl (c_ (zI l1)))).trans ((encode.bD ?_).trans ?_)))
 ·rw[r3,r2]
  exact c2 (iI (dy _)) (c_ ab)
 rw[r1,r2,r3,q1,q2,q3]
 show sk 0 0 [] 0 [] 0 0 0 0 [] 2 0 el 0 [] 0 0 0 0 [] (ep et 2++[]) false f2=_;unfold sk;refine(encode.bD (c3 rfl rfl (c_ l2))).trans ?_;rw[s1,s2,s3]
theorem Tv(em:ah UInt8)(eu ea er eo:Int)(hl:em.length<=20)(h0:0<=eu)(h1:eu<=1073741824)(ha: -68719476736<=ea/\ea<=68719476736)(hr: -68719476736<=er/\er<=68719476736)(ho: -4194304<=eo/\eo<=4194304):
 f1 0 0 [] 0 [] 0 0 0 0 [] 3 0 [] 0 [] 0 0 0 0 [] (ep (Int.ofNat em.length) 1++(em++(ep eu 4++pR [ea,er,eo]))) false=f2 0 0 [] 0 [] 0 0 0 0 [] 3 0 [] [] 0 em eu ea er eo [] [] false:=by
 have e8:pR [ea,er,eo]=ep ea 8++(ep er 8++(ep eo 8++[])):=by simp only[pR,List.flatMap_cons,List.flatMap_nil]
 rw[e8]
 have l4:(ep eo 8++([]:ah UInt8)).length<=90000:=by simp only[aF,dY,eW];omega
 have l3:(ep er 8++(ep eo 8++([]:ah UInt8))).length<=90000:=by simp only[aF,dY,eW];omega
 have l2:(ep ea 8++(ep er 8++(ep eo 8++([]:ah UInt8)))).length<=3000:=by simp only[aF,dY,eW];omega
 have l1:(em++(ep eu 4++(ep ea 8++(ep er 8++(ep eo 8++[]))))).length<=3000:=by simp only[aF,dY,eW];omega
 obtain⟨r1,r2,r3⟩:=O8 (n:=Int.ofNat em.length) (k:=1) (z:=1) (em++(ep eu 4++(ep ea 8++(ep er 8++(ep eo 8++[]))))) rfl af (dy _) (by show(em.length:Int)<256;omega)
 obtain⟨q1,q2,q3⟩:=Vk (a:=em) (t:=ep eu 4++(ep ea 8++(ep er 8++(ep eo 8++[])))) (n:=Int.ofNat em.length) rfl;obtain⟨s1,s2,s3⟩:=O8 (n:=eu) (k:=4) (z:=4) (ep ea 8++(ep er 8++(ep eo 8++[]))) rfl af h0 (by show eu<4294967296;omega)
 obtain⟨t1,t2,t3⟩:=Wf (n:=ea) (ep er 8++(ep eo 8++[])) ab ab
 obtain⟨u1,u2,u3⟩:=Wf (n:=er) (ep eo 8++[]) ab ab
 obtain⟨v1,v2,v3⟩:=Wf (n:=eo) [] ab ab
 show dR 0 0 [] 0 [] 0 0 0 0 [] 3 0 [] 0 [] 0 0 0 0 [] (ep (Int.ofNat em.length) 1++(em++(ep eu 4++(ep ea 8++(ep er 8++(ep eo 8++[])))))) false f2 f3 f5 f6=_;unfold dR;refine(bT rfl).trans ((bT rfl).trans ((dW rfl).trans ((encode.bD (c3 rfl rfl (c_ (zI l1)))).trans ((encode.bD ?_).trans ?_))))
 ·rw[r3,r2]
  exact c2 (iI (dy _)) (c_ ab)
 rw[r1,r2,r3,q1,q2,q3]
 show pQ 0 0 [] 0 [] 0 0 0 0 [] 3 0 [] 0 em 0 0 0 0 [] (ep eu 4++(ep ea 8++(ep er 8++(ep eo 8++[])))) false f7=_;unfold pQ;refine(encode.bD (c3 rfl rfl (c_ (zI l2)))).trans ?_;rw[s1,s2,s3]
 show wS 0 0 [] 0 [] 0 0 0 0 [] 3 0 [] 0 em eu 0 0 0 [] (ep ea 8++(ep er 8++(ep eo 8++[]))) false f2=_;unfold wS;rw[t1,t2,t3,u1,u2,u3,v1,v2,v3]
 exact(encode.bD (c3 rfl rfl (c_ ab))).trans ((encode.bD (c3 rfl rfl (c_ l3))).trans (encode.bD (c3 rfl rfl (c_ l4))))
theorem Tu(ex:ah UInt8)(hl:ex.length<=500):f1 0 0 [] 0 [] 0 0 0 0 [] 4 0 [] 0 [] 0 0 0 0 [] (ep (Int.ofNat ex.length) 2++ex) false=f2 0 0 [] 0 [] 0 0 0 0 [] 4 0 [] [] 0 [] 0 0 0 0 ex [] false:=by
 have e:ep (Int.ofNat ex.length) 2++ex=ep (Int.ofNat ex.length) 2++(ex++[]):=by rw[cU]
 rw[e]
 have l1:(ex++([]:ah UInt8)).length<=3000:=by simp;omega
 obtain⟨r1,r2,r3⟩:=O8 (n:=Int.ofNat ex.length) (k:=2) (z:=2) (ex++[]) rfl af (dy _) (by show(ex.length:Int)<65536;omega)
 obtain⟨q1,q2,q3⟩:=Vk (a:=ex) (t:=[]) (n:=Int.ofNat ex.length) rfl;show dR 0 0 [] 0 [] 0 0 0 0 [] 4 0 [] 0 [] 0 0 0 0 [] (ep (Int.ofNat ex.length) 2++(ex++[])) false f2 f3 f5 f6=_;unfold dR;refine(bT rfl).trans ((bT rfl).trans ((bT rfl).trans ((dW rfl).trans ((encode.bD (c3 rfl rfl (c_ (zI l1)))).trans ((encode.bD ?_).trans ?_)))))
 ·rw[r3,r2]
  exact c2 (iI (dy _)) (c_ ab)
 rw[r1,r2,r3,q1,q2,q3]
theorem back(h:jI r=true):f0 (fT r)=some (qE (r,0)):=by
 have ho:tJ r=true:=by
  rcases qJ h with⟨es,ei,rfl,_,_,h3,_⟩|⟨el,et,rfl,h3,_⟩|⟨em,eu,ea,er,eo,rfl,h3,_⟩|⟨ex,rfl,h3⟩
  ·exact eN (c_ (by show ei.length<=_;omega)) (c_ ae)
  ·exact eN (c_ ae) (c_ ae)
  ·exact eN (c_ ae) (c_ ae)
  ·exact eN (c_ ae) (c_ (by show ex.length<=_;omega))
 rw[<-Rc r h ho]
 rcases qJ h with⟨es,ei,rfl,h1,h2,h3,h4⟩|⟨el,et,rfl,h3,h4,h5⟩|⟨em,eu,ea,er,eo,rfl,h3,h4,h5,h6,h7,h8⟩|⟨ex,rfl,h3⟩
 ·exact(first 1 _ af af (by simp only[aF,dY,tZ];omega)).trans (Tx es ei h1 h2 h3 h4)
 ·exact(first 2 _ af af (by simp only[aF,dY];omega)).trans (Tw el et h3 h4 h5)
 ·exact(first 3 _ af af (by simp only[aF,dY,tZ,cI,eW];omega)).trans (Tv em eu ea er eo h3 h4 h5 h6 h7 h8)
 ·exact(first 4 _ af af (by simp only[aF,dY];omega)).trans (Tu ex h3)
def P:Rec×Int:=Classical.epsilon λa=>f0 b=some (qE a)
theorem lX(h:jI r=true):P (fT r)=(r,0):=by
 have e:=gD (p:=λa=>f0 (fT r)=some (qE a)) ⟨(r,0),back r h⟩
 exact PZ (ez (e.symm.trans (back r h)))
theorem aw(h:Il b=true):f0 b=some (qE (P b)):=by
 obtain⟨r,hr,rfl⟩:=eP.1 h;rw[lX r hr]
 exact back r hr
theorem ok:bp prog X:=fV lq (yj xg.c.ok KE) (ZQ ⟨D0.du,D0.vE⟩ pD)
theorem jE:kZ prog X:=jx _ (Ja (kU ok D0.du) (Ja (kU ok take.du) MS))
theorem spec(h:(Il b)=true):cV prog E 49 [(.au .u8 b)] (.bP [(.agg [(.int .i64 (((decode.P b).1).ek)),(.int .i64 (((decode.P b).1).es)),(.au .int (((decode.P b).1).ei)),(.str (((decode.P b).1).el)),(.int .i64 (((decode.P b).1).et)),(.str (((decode.P b).1).em)),(.int .i64 (((decode.P b).1).eu)),(.int .i64 (((decode.P b).1).ea)),(.int .i64 (((decode.P b).1).er)),(.int .i64 (((decode.P b).1).eo)),(.str (((decode.P b).1).ex))]),(.int .i64 ((decode.P b).2))]) []:=cR ok jE call49 func49 aa aa aa (by show 1<=100;decide) af (by rfl) ((run b).trans (aw b h))
def sp:Sp U El:=λargs k=>match args with
 |[.au .u8 b]=>aU (Il b) (k (.bP [(.agg [(.int .i64 (((decode.P b).1).ek)),(.int .i64 (((decode.P b).1).es)),(.au .int (((decode.P b).1).ei)),(.str (((decode.P b).1).el)),(.int .i64 (((decode.P b).1).et)),(.str (((decode.P b).1).em)),(.int .i64 (((decode.P b).1).eu)),(.int .i64 (((decode.P b).1).ea)),(.int .i64 (((decode.P b).1).er)),(.int .i64 (((decode.P b).1).eo)),(.str (((decode.P b).1).ex))]),(.int .i64 ((decode.P b).2))]) [])
 |_=>none
theorem du:gQ prog E 49 sp where
 pe:=λvs=>by
  unfold sp;split
  ·exact kK _ _ _
  ·exact⟨none,λ_=>rfl⟩
 ok:=λvs k r h=>by
  unfold sp at h;split at h
  ·obtain⟨h1,h2⟩:=aQ h;exact⟨_,_,.inl (spec _ h1),h2⟩
  ·cases h
end decode
def fL:ah (ah UInt8)->ah UInt8
 |[]=>[]
 |b::bs=>iz b++fL bs
def nC(p:Nat):ah (ah UInt8)->ah Int
 |[]=>[]
 |b::bs=>((p+(iz b).length:Nat):Int)::nC (p+(iz b).length) bs
theorem oq(b:ah UInt8):(iz b).length=b.length+8:=by
 unfold iz;simp only[aF,dY]
 omega
theorem Gy(b:ah UInt8):iz b=ep (Int.ofNat b.length) 4++(b++ep (ua (ep (Int.ofNat b.length) 4++b)) 4):=b_ _ _ _
def C7(q:ah UInt8):Prop:=∃b:ah UInt8,b.length<=65535/\q.length<(iz b).length/\q=(iz b).take q.length
theorem vz:C7 []:=⟨[],ae,by rw[oq];simp,ae⟩
def Good(bs:ah (ah UInt8))(q:ah UInt8):Prop:=(∀b∈bs,b.length<=65535)/\C7 q/\(fL bs++q).length<=90000
def te(b:ah UInt8):Bool:=yb (∃bs q,Good bs q/\b=fL bs++q)
theorem Np{α:Type}(a b c:ah α){s e:Int}(hs:s=(a.length:Int))(he:e=((a.length+b.length:Nat):Int)):sub (a++(b++c)) s e=b:=by
 subst hs he;unfold sub;simp only[ig]
 rw[List.drop_left,show a.length+b.length-a.length=b.length by omega,List.take_left]
def qF(p:ah (ah UInt8)×ah Int):Fin U El:=(.bP [.au .o9 p.1,.au .int p.2],[])
theorem PY{a b:ah (ah UInt8)×ah Int}(h:qF a=qF b):a=b:=by obtain⟨a1,a2⟩:=a;obtain⟨b1,b2⟩:=b;simp only[qF,dw,AV.bP.injEq,kC,and_true]at h;have h1:a1=b1:=eq_of_heq (AV.au.inj h.1).2;have h2:a2=b2:=eq_of_heq (AV.au.inj h.2).2;rw[h1,h2]
namespace kO
variable(cA:ah UInt8)(l2:ah (ah UInt8))(dA:ah Int)(aA data:ah UInt8)(gW Vh:bn U El)(b:ah UInt8)
def X:Ctx U El:=⟨E,iH,zeros,eqs,lr [(96,L7.c.s)],100000,76,js [],lO [(97,sY D0.sp),(98,sY take.sp)],λ_=>none⟩
def bd:=dG f48
def fM:Norm U:=⟨[],[2,3],[],[(2,.o9),(3,.int)],[],[],[]⟩
def RR:bn U El:=λst=>cN fM st (ch [2,3] [])
def eE:Norm U:=⟨[(2,.o9),(3,.int)],[0,2,3,4],[2,3,12],[],[],[],[(12,0,.u8)]⟩
def an:gb U:=(.seq none .d (.seq none .d (.block (.loop eE (.block (.seq none .d (.seq none .d (.seq (some (⟨[(2,.o9),(3,.int)],[0,2,3,4,5,6],[2,3,12],[],[],[],[(12,0,.u8)]⟩)) .d (.seq none .d (.seq none .d (.seq none .d (.seq (some (⟨[(2,.o9),(3,.int)],[0,2,3,4,7],[2,3,12],[],[],[],[(12,0,.u8)]⟩)) .d (.region [(3,2),(14,3)])))))))))))))
abbrev Y1:=(ah UInt8)->(ah (ah UInt8))->(ah Int)->(ah UInt8)->Bool->R
abbrev Y2:=(ah UInt8)->(ah (ah UInt8))->(ah Int)->Int->Int->(ah UInt8)->Bool->R
abbrev Y3:=(ah UInt8)->(ah (ah UInt8))->(ah Int)->(ah UInt8)->(ah UInt8)->Bool->R
def Rb(bA:Bool):St U El:=⟨[(0,.au .u8 cA),(2,.cf 2),(3,.cf 3),(4,.ptr 12 0)],[(2,.rows .o9 l2),(3,.rows .int dA),(12,.box 0 [.au .u8 aA,.bool bA])]⟩
def cX(k1:Y1):R:=k1 b ([]:ah (ah UInt8)) ([]:ah Int) b false
def dR(bA:Bool)(k2:Y2):R:=aU ((bg 0 (4:Int)&&(bg (4:Int) 8&&bU aA.length 90000))) (ai (l9 aA bA (4:Int)) (some (.bP [.au .o9 l2,.au .int dA],[])) (ai (bz (65535:Int) (j4 aA bA (4:Int))) (some (.bP [.au .o9 l2,.au .int dA],[])) (k2 cA l2 dA (i64.wrap ((Int.ofNat cA.length)-(Int.ofNat aA.length))) (j4 aA bA (4:Int)) (lF aA bA (4:Int)) (l9 aA bA (4:Int)))))
def dQ(eA n6:Int)(aA:ah UInt8)(bA:Bool)(k3:Y3):R:=aU (bg 0 n6&&bU aA.length 90000) (aU ((bg 0 (4:Int)&&(bg (4:Int) 8&&bU (List.length (lF aA bA n6)) 90000))) (ai (l9 (lF aA bA n6) (l9 aA bA n6) (4:Int)) (some (.bP [.au .o9 l2,.au .int dA],[])) (aU (bg 0 eA&&bg eA (i64.wrap ((Int.ofNat cA.length)-(Int.ofNat (List.length (lF aA bA n6)))))&&bg (i64.wrap ((Int.ofNat cA.length)-(Int.ofNat (List.length (lF aA bA n6))))) (Int.ofNat cA.length)) (aU (bU (List.length (sub cA eA (i64.wrap ((Int.ofNat cA.length)-(Int.ofNat (List.length (lF aA bA n6))))))) 90000) (ai ((j4 (lF aA bA n6) (l9 aA bA n6) (4:Int)) !=(ua (sub cA eA (i64.wrap ((Int.ofNat cA.length)-(Int.ofNat (List.length (lF aA bA n6)))))))) (some (.bP [.au .o9 l2,.au .int dA],[])) (k3 cA l2 dA (Dl aA bA n6) (lF (lF aA bA n6) (l9 aA bA n6) (4:Int)) (l9 (lF aA bA n6) (l9 aA bA n6) (4:Int))))))))
def gf(b7 aA:ah UInt8)(bA:Bool)(k1:Y1):R:=aU (bU ((List.length l2+List.length ([b7]:ah (ah UInt8)))*24) 140737488355328&&bU (List.length l2+List.length ([b7]:ah (ah UInt8))) 9223372036854775807) (aU (bU ((List.length dA+List.length ([(i64.wrap ((Int.ofNat cA.length)-(Int.ofNat aA.length)))]:ah Int))*8) 140737488355328&&bU (List.length dA+List.length ([(i64.wrap ((Int.ofNat cA.length)-(Int.ofNat aA.length)))]:ah Int)) 9223372036854775807) (k1 cA (l2++([b7]:ah (ah UInt8))) (dA++([(i64.wrap ((Int.ofNat cA.length)-(Int.ofNat aA.length)))]:ah Int)) aA bA))
abbrev ex:=kf X bd an RR
abbrev it:=nO X bd an RR
def RF:=it eE [1,1,0,0] (cu 0 RR nE)
def ib:=ex [1,1,0,0,0,1,1,1] (bG eE gW) (cu 1 (bG eE gW) (cu 0 RR nE))
def mz:=ex [1,1,0,0,0,1,1,1,1,1,1,1] (bG eE gW) (cu 1 (bG eE gW) (cu 0 RR nE))
def f3(k1:Y1)(cA:ah UInt8)(l2:ah (ah UInt8))(dA:ah Int)(b7 aA:ah UInt8)(bA:Bool):R:=gf cA l2 dA b7 aA bA k1
def f2(k1:Y1)(cA:ah UInt8)(l2:ah (ah UInt8))(dA:ah Int)(eA n6:Int)(aA:ah UInt8)(bA:Bool):R:=dQ cA l2 dA eA n6 aA bA (f3 k1)
def f1:Nat->Y1
 |0=>λ_ _ _ _ _=>none
 |n+1=>λcA l2 dA aA bA=>dR cA l2 dA aA bA (f2 (f1 n))
def f0:R:=cX b (f1 100000)
theorem E3(k1:Y1)(h1:(λcA l2 dA aA bA=>Vh (Rb cA l2 dA aA bA))=k1):(λcA l2 dA b7 aA bA=>(hid (mz Vh)) ⟨[(0,.au .u8 cA),(2,.cf 2),(3,.cf 3),(4,.ptr 12 0),(7,.au .u8 b7)],[(2,.rows .o9 l2),(3,.rows .int dA),(12,.box 0 [.au .u8 aA,.bool bA])]⟩)=f3 k1:=by subst h1;funext cA l2 dA b7 aA bA;refine cm ?_;unfold f3;exact aa
theorem E2(k1:Y1)(h1:(λcA l2 dA aA bA=>Vh (Rb cA l2 dA aA bA))=k1):(λcA l2 dA eA n6 aA bA=>(hid (ib Vh)) ⟨[(0,.au .u8 cA),(2,.cf 2),(3,.cf 3),(4,.ptr 12 0),(5,.int .i64 eA),(6,.int .i64 n6)],[(2,.rows .o9 l2),(3,.rows .int dA),(12,.box 0 [.au .u8 aA,.bool bA])]⟩)=f2 k1:=by subst h1;funext cA l2 dA eA n6 aA bA;refine cm ?_;unfold f2;rw[<-E3 Vh _ rfl];exact aa
theorem T1:∀n,(λcA l2 dA aA bA=>RF n (Rb cA l2 dA aA bA))=f1 n:=by
 intro n;induction n with
 |zero=>rfl
 |succ n ih=>funext cA l2 dA aA bA;rw[f1];rw[<-E2 (RF n) _ ih];exact aa
theorem H1:(λcA l2 dA aA bA=>hid (RF 100000) (Rb cA l2 dA aA bA))=f1 100000:=by rw[cM];exact(T1 100000)
theorem run:ca X bd an fM [2,3] [] [.au .u8 b]=f0 b:=by unfold f0;rw[<-H1];exact aa
theorem Kq(l:ah UInt8)(ls:ah (ah UInt8))(es:ah Int)(m:Nat){q:ah UInt8}(hq:C7 q)(hl:q.length<=90000):f1 (m+1) data ls es q false=some (qF (ls,es)):=by
 obtain⟨b,hb,hlt,he⟩:=hq;rw[oq]at hlt;show dR data ls es q false (f2 (f1 m))=_;unfold dR;refine(encode.bD (c3 rfl rfl (c_ hl))).trans ?_;by_cases h4:q.length<4
 ·exact dW (show bz (Int.ofNat q.length) 4=true from eh (by show(q.length:Int)<4;omega))
 ·have WU:q=ep (Int.ofNat b.length) 4++(b++ep (ua (ep (Int.ofNat b.length) 4++b)) 4).take (q.length-4):=by
   have:q=(ep (Int.ofNat b.length) 4++(b++ep (ua (ep (Int.ofNat b.length) 4++b)) 4)).take q.length:=by rw[<-Gy];exact he
   rw[List.take_append,dY,ki (by rw[dY];omega)]at this;exact this
  generalize ht:(b++ep (ua (ep (Int.ofNat b.length) 4++b)) 4).take (q.length-4)=t at WU;have hlen:q.length=4+t.length:=by
   have:=congrArg List.length WU;rwa [aF,dY]at this
  obtain⟨r1,r2,r3⟩:=decode.O8 (n:=Int.ofNat b.length) (k:=4) (z:=4) t rfl af (dy _) (by show(b.length:Int)<4294967296;omega)
  rw[<-WU]at r1 r2 r3;refine(bT r1).trans ((bT ?_).trans ?_)
  ·rw[r3];exact dF (by show¬(65535:Int)<(b.length:Int);omega)
  rw[r1,r2,r3]
  show dQ data ls es _ (Int.ofNat b.length) t false (f3 (f1 m))=_;unfold dQ;have hR:((lF t false (Int.ofNat b.length)).length:Int)<=t.length:=by
   unfold lF;cases l9 t false (Int.ofNat b.length)with
   |true=>exact j_ _
   |false=>simp only[cond_false,sub];simp
  refine(encode.bD (c2 (iI (dy _)) (c_ ab))).trans ((encode.bD (c3 rfl rfl (c_ ab))).trans (dW ?_))
  by_cases hn:t.length<b.length
  ·rw[show l9 t false (Int.ofNat b.length)=true from eh (by show(t.length:Int)<(b.length:Int);omega)]
   rfl
  ·have e:l9 t false (Int.ofNat b.length)=false:=dF (by show¬(t.length:Int)<(b.length:Int);omega)
   have e2:lF t false (Int.ofNat b.length)=t.drop b.length:=by
    unfold lF;rw[e]
    simp only[cond_false,sub]
    show(t.drop b.length).take (t.length-b.length)=_;exact ki (by rw[fE];omega)
   rw[e,e2]
   exact eh (by show((t.drop b.length).length:Int)<4;rw[fE];omega)
theorem Tj(hd:data.length<=90000){q:ah UInt8}(hq:C7 q):∀(bs:ah (ah UInt8)) (m:Nat) (pre:ah UInt8) (ls:ah (ah UInt8)) (es:ah Int),bs.length<m->(∀b∈bs,b.length<=65535)->data=pre++(fL bs++q)->ls.length<=90000->es.length<=90000->ls.length+bs.length<=90000->es.length+bs.length<=90000->
 f1 m data ls es (fL bs++q) false=some (qF (ls++bs,es++nC pre.length bs)):=by
 intro bs;induction bs with
 |nil=>
  intro m pre ls es hm hb he _ _ _ _;obtain⟨m,rfl⟩:=eI (by omega:m≠0)
  have:q.length<=90000:=by rw[he]at hd;simp only[fL,gh,aF]at hd;omega
  rw[show fL []++q=q from rfl,Kq data [] ls es m hq this]
  simp only[nC,cU]
 |cons b bs ih=>
  intro m pre ls es hm hb he k1 k2 k3 k4;obtain⟨m,rfl⟩:=eI (by omega:m≠0)
  have iV:=hb b ae
  obtain⟨s0,s1⟩:=FB (ep (Int.ofNat b.length) 4++b)
  generalize hs:ua (ep (Int.ofNat b.length) 4++b)=s at s0 s1;obtain⟨R,hR⟩:∃R,R=fL bs++q:=⟨_,rfl⟩
  have e0:fL (b::bs)++q=ep (Int.ofNat b.length) 4++(b++(ep s 4++R)):=by
   show(iz b++fL bs)++q=_;rw[Gy,hs,hR]
   simp only[b_]
  have ZA:=congrArg List.length he;rw[e0]at ZA he⊢;simp only[aF,dY]at ZA;obtain⟨r1,r2,r3⟩:=decode.O8 (n:=Int.ofNat b.length) (k:=4) (z:=4) (b++(ep s 4++R)) rfl af (dy _) (by show(b.length:Int)<4294967296;omega)
  obtain⟨q1,q2,q3⟩:=Vk (a:=b) (t:=ep s 4++R) (n:=Int.ofNat b.length) rfl;obtain⟨t1,t2,t3⟩:=decode.O8 (n:=s) (k:=4) (z:=4) R rfl af s0 (by simpa using s1)
  show dR data ls es (ep (Int.ofNat b.length) 4++(b++(ep s 4++R))) false (f2 (f1 m))=_;unfold dR;refine(encode.bD (c3 rfl rfl (c_ (by simp only[aF,dY];omega)))).trans ((bT r1).trans ((bT ?_).trans ?_))
  ·rw[r3];exact dF (by show¬(65535:Int)<(b.length:Int);omega)
  rw[r1,r2,r3]
  have st:i64.wrap (Int.ofNat data.length-Int.ofNat (ep (Int.ofNat b.length) 4++(b++(ep s 4++R))).length)=(pre.length:Int):=by
   rw[jD (by simp only[aF,dY,aW];omega) (by simp only[aF,dY,aW];omega)]
   simp only[aF,dY,aW];omega
  rw[st]
  show dQ data ls es (pre.length:Int) (Int.ofNat b.length) (b++(ep s 4++R)) false (f3 (f1 m))=_;unfold dQ;rw[q1,q2,q3,t1,t2,t3]
  have en:i64.wrap (Int.ofNat data.length-Int.ofNat (ep s 4++R).length)=((pre.length+(ep (Int.ofNat b.length) 4++b).length:Nat):Int):=by
   rw[jD (by simp only[aF,dY,aW];omega) (by simp only[aF,dY,aW];omega)]
   simp only[aF,dY,aW];omega
  have sm:sub data (pre.length:Int) ((pre.length+(ep (Int.ofNat b.length) 4++b).length:Nat):Int)=ep (Int.ofNat b.length) 4++b:=by
   rw[he,<-b_ (ep (Int.ofNat b.length) 4) b]
   exact Np pre (ep (Int.ofNat b.length) 4++b) (ep s 4++R) rfl rfl
  rw[en,sm,hs]
  refine(encode.bD (c2 (iI (dy _)) (c_ (by simp only[aF,dY];omega)))).trans ((encode.bD (c3 rfl rfl (c_ (by simp only[aF,dY];omega)))).trans ((bT rfl).trans ((encode.bD ?_).trans ((encode.bD (c_ (by simp only[aF,dY];omega))).trans ((bT ae).trans ?_)))))
  ·exact c2 (c2 (iI (dy _)) (iI ab)) (iI (by simp only[aF,dY,aW];omega))
  show gf data ls es b R false (f1 m)=_;unfold gf;refine(encode.bD (xq ab)).trans ((encode.bD (xq ab)).trans ?_)
  have e9:i64.wrap (Int.ofNat data.length-Int.ofNat R.length)=((pre.length+(iz b).length:Nat):Int):=by
   rw[jD (by simp only[aW];omega) (by simp only[aW];omega),oq]
   simp only[aW];omega
  rw[e9,hR]
  refine(ih m (pre++iz b) (ls++[b]) (es++[((pre.length+(iz b).length:Nat):Int)]) (by simp at hm;omega) (λc hc=>hb c (by simp[hc])) ?_ (by simp at k3⊢;omega) (by simp at k4⊢;omega) (by simp at k3⊢;omega) (by simp at k4⊢;omega)).trans ?_
  ·rw[he,b_,Gy,hs,hR]
   simp only[b_]
  ·simp only[nC,b_,eM,gh,aF]
theorem back{bs:ah (ah UInt8)}{q:ah UInt8}(h:Good bs q):f0 (fL bs++q)=some (qF (bs,nC 0 bs)):=by
 obtain⟨h1,h2,h3⟩:=h;have hl:∀bs:ah (ah UInt8),bs.length<=(fL bs).length:=by
  intro bs;induction bs with
  |nil=>simp
  |cons b bs ih=>simp only[fL,cI,aF,oq];omega
 have:=hl bs;rw[aF]at h3;have e:=Tj (fL bs++q) (by rw[aF];omega) h2 bs 100000 [] [] [] ab h1 rfl ae ae (by simp;omega) (by simp;omega)
 exact e
def P:ah (ah UInt8)×ah Int:=Classical.epsilon λa=>f0 b=some (qF a)
theorem lX{bs:ah (ah UInt8)}{q:ah UInt8}(h:Good bs q):P (fL bs++q)=(bs,nC 0 bs):=by
 have e:=gD (p:=λa=>f0 (fL bs++q)=some (qF a)) ⟨_,back h⟩
 exact PY (ez (e.symm.trans (back h)))
theorem aw(h:te b=true):f0 b=some (qF (P b)):=by
 obtain⟨bs,q,hg,rfl⟩:=eP.1 h;rw[lX hg]
 exact back hg
theorem ok:bp prog X:=fV lq (yj L7.c.ok KE) pD
def c:Ct:=⟨48,cj (A1 (bL .u8) λb=>(te b,(.bP [(.au .o9 ((kO.P b).1)),(.au .int ((kO.P b).2))]))),HI (X:=X) ok (jx _ (Ja (kU ok D0.du) (Ja (kU ok take.du) MS))) call48 func48 (a1 λb e_=>(run b).trans (aw b e_))⟩
end kO
theorem B3:∀(bs:ah (ah UInt8)) (p:Nat),(nC p bs).length=bs.length:=by
 intro bs;induction bs with
 |nil=>intro p;rfl
 |cons b bs ih=>intro p;simp only[nC,cI,ih]
theorem GG:∀(bs:ah (ah UInt8)) (p:Nat),bs≠[]->List.getD (nC p bs) (bs.length-1) bF=((p+(fL bs).length:Nat):Int):=by
 intro bs;induction bs with
 |nil=>intro p h;exact absurd rfl h
 |cons b bs ih=>
  intro p _;cases bs with
  |nil=>simp[nC,fL,List.getD]
  |cons c cs=>
   have:=ih (p+(iz b).length) ae
   simp only[nC,fL,cI,aF,Nat.add_sub_cancel,List.getD_cons_succ]at this⊢;rw[this]
   simp only[fb]
theorem Me:∀(bs:ah (ah UInt8)) (p:Nat) (x:Int),x∈nC p bs->(p:Int)<=x/\x<=((p+(fL bs).length:Nat):Int):=by
 intro bs;induction bs with
 |nil=>intro p x h;cases h
 |cons b bs ih=>
  intro p x h;simp only[nC,bN]at h;simp only[fL,aF]
  rcases h with rfl|h
  ·omega
  ·have:=ih _ _ h;omega
namespace whole
variable(b:ah UInt8)
def X:=dp [kO.c] 19
def f0:R:=aU (te b) (ai ((Int.ofNat (List.length ((kO.P b).2)))==(0:Int)) (gl (0:Int)) (aU (dV (i64.wrap ((Int.ofNat (List.length ((kO.P b).2)))-(1:Int))) (List.length ((kO.P b).2))) (gl (List.getD ((kO.P b).2) (Int.toNat (i64.wrap ((Int.ofNat (List.length ((kO.P b).2)))-(1:Int)))) bF))))
theorem run:ca X (dG f46) .d (cS [2]) [2] [] [.au .u8 b]=f0 b:=aa
theorem back{bs:ah (ah UInt8)}{q:ah UInt8}(h:Good bs q):f0 (fL bs++q)=some (qI ((fL bs).length:Int)):=by
 unfold f0;rw[kO.lX h]
 refine(encode.bD (eP.2 ⟨bs,q,h,rfl⟩)).trans ?_;cases bs with
 |nil=>rfl
 |cons b bs=>
  obtain⟨h1,h2,h3⟩:=h;have hl:(b::bs).length<=90000:=by
   have hl:∀bs:ah (ah UInt8),bs.length<=(fL bs).length:=by
    intro bs;induction bs with
    |nil=>simp
    |cons b bs ih=>simp only[fL,cI,aF,oq];omega
   have:=hl (b::bs)
   rw[aF]at h3;omega
  have e:(nC 0 (b::bs)).length=(b::bs).length:=B3 _ _;dsimp only;rw[e]
  have e2:i64.wrap (Int.ofNat (b::bs).length-1)=(((b::bs).length-1:Nat):Int):=vm _ ae ab
  rw[e2,c9 ae,toNat_nat,GG (b::bs) 0 ae]
  refine(bT (Py (by simp;omega))).trans ?_;simp only[eZ,bZ]
  rfl
def P:Int:=Classical.epsilon λa=>f0 b=some (qI a)
theorem PW{a b:Int}(h:qI a=qI b):a=b:=by simp only[qI,dw,AV.int.injEq,true_and,and_true]at h;exact h
theorem lX{bs:ah (ah UInt8)}{q:ah UInt8}(h:Good bs q):P (fL bs++q)=((fL bs).length:Int):=by
 have e:=gD (p:=λa=>f0 (fL bs++q)=some (qI a)) ⟨_,back h⟩
 exact PW (ez (e.symm.trans (back h)))
theorem aw(h:te b=true):f0 b=gl (P b):=by
 obtain⟨bs,q,hg,rfl⟩:=eP.1 h;rw[lX hg]
 exact back hg
def c:Ct:=⟨46,cj (A1 (bL .u8) λb=>(te b,.int .i64 (whole.P b))),ir call46 func46 (a1 λb e_=>(run b).trans (aw b e_))⟩
end whole
def v_(x y:Int):Bool:=x==y
namespace TF
variable(s0:ah Int)(v1 x7 x8:Int)(l:ah Int)(x:Int)
def X:=dp [] 19
def bd:=dG f171
def RR:bn U El:=λst=>cN (cS [4]) st (ch [4] [])
def eE:Norm U:=cS []
def dI:Norm U:=cS [0,1,7,8]
def an:gb U:=(.seq none .d (.seq (some eE) (.seq none .d (.block (.loop dI .d))) .d))
abbrev Y1:=R
abbrev Y2:=(ah Int)->Int->Int->Int->R
def fY:St U El:=⟨[(0,.au .int s0),(1,.int .i64 v1),(7,.int .i64 x7),(8,.int .i64 x8)],[]⟩
def cX(k2:Y2):R:=k2 l x (Int.ofNat l.length) (0:Int)
def dR:R:=gl (-1:Int)
def dQ(k1:Y1)(k2:Y2):R:=ai (bz x8 x7) (aU (dV x8 s0.length) (ai (v1==(s0.getD x8.toNat bF)) (gl x8) (k2 s0 v1 x7 (i64.wrap (x8+(1:Int)))))) (k1)
abbrev ex:=kf X bd an RR
abbrev it:=nO X bd an RR
def gu(gW:bn U El):=it dI [1,0,1,0,0] (cu 0 (bG eE gW) nE)
def cQ:=ex [1,1] RR nE
def f1:R:=dR
def f2:Nat->Y2
 |0=>λ_ _ _ _=>none
 |n+1=>λs0 v1 x7 x8=>dQ s0 v1 x7 x8 f1 (f2 n)
def f0:R:=cX l x (f2 100000)
theorem E1:((hid cQ) ⟨[],[]⟩)=f1:=by refine cm ?_;unfold f1;exact aa
theorem T2:∀n,(λs0 v1 x7 x8=>gu (hid cQ) n (fY s0 v1 x7 x8))=f2 n:=by
 intro n;induction n with
 |zero=>rfl
 |succ n ih=>funext s0 v1 x7 x8;rw[f2];rw[<-E1,<-ih];exact aa
theorem H2:(λs0 v1 x7 x8=>hid (gu (hid cQ) 100000) (fY s0 v1 x7 x8))=f2 100000:=by rw[cM];exact(T2 100000)
theorem run:ca X bd an (cS [4]) [4] [] [.au .int l,.int .i64 x]=f0 l x:=by unfold f0;rw[<-H2];exact aa
theorem aw(h:bU l.length 90000=true):f0 l x=gl (dM (v_ x) 0 l):=by
 have hl:=ia h;refine(jr l ab (λn_ (_:Unit) i_=>f2 n_ l x (Int.ofNat l.length) i_) _ (λ_=>gl (-1)) (λn_ u_ i_ qy=>?_) (λn_ u_=>?_) 100000 0 () ab ab).trans (qV (v_ x) gl l 0)
 ·show dQ l x (Int.ofNat l.length) i_ f1 (f2 n_)=_;unfold dQ;rw[eh (by simp;omega),c9 qy,toNat_nat,bQ qy]
  rfl
 ·show dQ l x (Int.ofNat l.length) (l.length:Int) f1 (f2 n_)=_;unfold dQ;rw[dF ae]
  rfl
def c:Ct:=⟨171,cj (A2 (bL .int) aI λl x=>(bU l.length 90000,(.int .i64 (dM (v_ x) 0 l)))),ir call171 func171 (a2 λl x e_=>(run l x).trans (aw l x e_))⟩
end TF
namespace Ux
variable(l:ah Int)(x:Int)
def X:=dp [TF.c] 9
def f0:R:=aU (bU l.length 90000) (aq (bg (0:Int) (dM (v_ x) 0 l)))
theorem run:ca X (dG f95) .d (cS [4]) [4] [] [.au .int l,.int .i64 x]=f0 l x:=aa
theorem aw(h:bU l.length 90000=true):f0 l x=aq (List.any l (v_ x)):=by show aU _ (aq _)=_;rw[h,eZ,xf]
def c:Ct:=⟨95,cj (A2 (bL .int) aI λl x=>(bU l.length 90000,(.bool (List.any l (v_ x))))),ir call95 func95 (a2 λl x e_=>(run l x).trans (aw l x e_))⟩
end Ux
def lY(d:bS)(bs:ah (ah UInt8))(q:ah UInt8):Prop:=d.dd=fL bs++q/\Good bs q/\(-1<=d.da/\d.da<=1048576)/\(d.dn=0\/d.dn∈nC 0 bs)
def Re(d:bS):Bool:=yb (∃bs q,lY d bs q)
theorem lY.VO{d:bS}{bs:ah (ah UInt8)}{q:ah UInt8}(h:lY d bs q):te d.dd=true:=eP.2 ⟨bs,q,h.2.1,h.1⟩
theorem lY.len{d:bS}{bs:ah (ah UInt8)}{q:ah UInt8}(h:lY d bs q):d.dd.length<=90000:=by rw[h.1];exact h.2.1.2.2
theorem lY.dn{d:bS}{bs:ah (ah UInt8)}{q:ah UInt8}(h:lY d bs q):0<=d.dn/\d.dn<=(fL bs).length:=by
 rcases h.2.2.2 with e|e
 ·rw[e];omega
 ·have:=Me _ _ _ e;omega
namespace rK
variable(aA:ah UInt8)(d:bS)
def X:=dp [kO.c,Ux.c] 34
def bd:=dG f43
def RR:bn U El:=λst=>cN (cS [2]) st (ch [2] [])
def an:gb U:=(.seq none .d (.seq (some (⟨[],[1],[1],[],[],[],[(1,0,.u8)]⟩)) .d .d))
abbrev Y1:=(ah UInt8)->Int->Int->R
def cX(k1:Y1):R:=ai (bz (1048576:Int) (Int.ofNat d.dd.length)) (aq false) (ai (bz d.da (-1:Int)) (aq false) (ai (bz (1048576:Int) d.da) (aq false) (k1 d.dd d.dn d.da)))
def dR(bA cA:Int):R:=aU (te aA) (ai (bA==(0:Int)) (aq true) (aU (bU (List.length ((kO.P aA).2)) 90000) (aq (List.any ((kO.P aA).2) (v_ bA)))))
abbrev ex:=kf X bd an RR
def cQ:=ex [1,1] RR nE
def f1(bA cA:Int):R:=dR aA bA cA
def f0:R:=cX d f1
theorem E1:(λaA bA cA=>(hid cQ) ⟨[(1,.ptr 1 0)],[(1,.box 0 [.au .u8 aA,.int .i64 bA,.int .i64 cA])]⟩)=f1:=by funext aA bA cA;refine cm ?_;unfold f1;exact aa
theorem run:ca X bd an (cS [2]) [2] [] [eA .xh d]=f0 d:=by unfold f0;rw[<-E1];exact aa
theorem back{d:bS}{bs:ah (ah UInt8)}{q:ah UInt8}(h:lY d bs q):f0 d=some (qB true):=by
 have hl:=h.len;obtain⟨h1,h2,⟨h3,h4⟩,h5⟩:=h;show cX d f1=_;unfold cX;refine(bT (dF (by show¬(1048576:Int)<(d.dd.length:Int);omega))).trans ((bT (dF ab)).trans ((bT (dF ab)).trans ?_))
 show dR d.dd d.dn d.da=_;unfold dR;rw[h1,kO.lX h2]
 refine(encode.bD (eP.2 ⟨bs,q,h2,rfl⟩)).trans ?_;by_cases e:d.dn=0
 ·exact dW (by rw[e];rfl)
 ·refine(bT (Py e)).trans ((encode.bD (c_ ?_)).trans ?_)
  ·dsimp only;rw[B3]
   have qx:∀bs:ah (ah UInt8),bs.length<=(fL bs).length:=by
    intro bs;induction bs with
    |nil=>simp
    |cons b bs ih=>simp only[fL,cI,aF,oq];omega
   have:=qx bs;have h6:=h2.2.2;rw[aF]at h6;omega
  ·have:List.any (nC 0 bs) (v_ d.dn)=true:=List.any_eq_true.2 ⟨d.dn,h5.resolve_left e,by simp[v_]⟩
   dsimp only;rw[this]
   rfl
theorem aw(h:Re d=true):f0 d=aq true:=by obtain⟨bs,q,h⟩:=eP.1 h;exact back h
def c:Ct:=⟨43,cj (A1 (aR .xh) λd=>(Re d,.bool (true))),ir call43 func43 (a1 λd e_=>(run d).trans (aw d e_))⟩
end rK
theorem vJ{r:Rec}(h:jI r=true):tJ r=true:=by
 rcases qJ h with⟨es,ei,rfl,_,_,h3,_⟩|⟨el,et,rfl,h3,_⟩|⟨em,eu,ea,er,eo,rfl,h3,_⟩|⟨ex,rfl,h3⟩
 ·exact eN (c_ (by show ei.length<=_;omega)) (c_ ae)
 ·exact eN (c_ ae) (c_ ae)
 ·exact eN (c_ ae) (c_ ae)
 ·exact eN (c_ ae) (c_ (by show ex.length<=_;omega))
theorem GH{r:Rec}(h:jI r=true):JH r=0/\CP r=fT r/\(fT r).length<=3000:=by
 have h3:=Mg r;have e:CP r=fT r:=by unfold CP;rw[h];rfl
 rw[e]at h3;exact⟨by unfold JH;rw[h];rfl,e,h3⟩
def bJ(d:bS)(r:Rec):bS×Int:=
 bif d.da==0 then(d,19)else bif bg 0 d.da&&bz d.da (Int.ofNat (iz (fT r)).length)then(⟨d.dd++(iz (fT r)).take d.da.toNat,d.dn,0⟩,19)
 else(⟨d.dd++iz (fT r),d.dn,bif bz 0 d.da then d.da-Int.ofNat (iz (fT r)).length else d.da⟩,0)
def qZ(d:bS)(r:Rec):Bool:=yb (jI r=true/\(∃bs q,lY d bs q/\(q=[]\/d.da=0))/\d.dd.length<=80000)
theorem U'{a b:Nat}(h:a+b<=1000000):(bU ((a+b)*1) 140737488355328&&bU (a+b) 9223372036854775807)=true:=eN (c_ ab) (c_ ab)
namespace CR
variable(b6 aA:ah UInt8)(d:bS)(r:Rec)
def X:Ctx U El:=⟨E,iH,zeros,eqs,lr [(42,encode.c.s),(43,rK.c.s),(44,Gz.c.s),(46,whole.c.s)],100000,85,js [],lO [(45,sY rJ.sp)],λ_=>none⟩
def bd:=dG Tryz.f11
def fM:Norm U:=⟨[],[85,5],[],[],[],[(85,0,.u8)],[]⟩
def RR:bn U El:=λst=>fz X 85 [(4,49)] 85 st λst=>cN fM st (ch [85,5] [])
def an:gb U:=(.seq none .d (.seq none .d (.seq (some (⟨[],[2,4,6],[2,4],[],[],[],[(2,0,.u8)]⟩)) .d (.seq none .d (.seq none .d (.seq none .d (.seq (some (⟨[(8,.u8)],[2,4,8],[8,2,4,500000200],[],[(2,0,.u8,500000200)],[],[]⟩)) (.seq none .d (.cond (.seq none (.region [(6,49000),(8,2),(10,2)]) .d) .d)) (.seq none .d (.seq (some (⟨[],[2,4],[2,4,500000200],[],[(2,0,.u8,500000200)],[],[]⟩)) .d .d)))))))))
abbrev Y1:=(ah UInt8)->(ah UInt8)->Int->Int->Int->Int->R
abbrev Y2:=(ah UInt8)->(ah UInt8)->Int->Int->Int->Int->R
abbrev Y3:=(ah UInt8)->Int->Int->Int->Int->R
def cX(k1:Y1):R:=aU (tJ r) (aU (Re d) (ai (!(true)) (some ((.bP [(.agg [(.au .u8 ([]:ah UInt8)),.int .i64 (0:Int),.int .i64 (0:Int)]),.int .i64 (1:Int)]),[])) (ai ((JH r) !=(0:Int)) (some ((.bP [(.agg [(.au .u8 ([]:ah UInt8)),.int .i64 (0:Int),.int .i64 (0:Int)]),.int .i64 (1:Int)]),[])) (k1 (CP r) d.dd d.dn d.da (0:Int) (0:Int)))))
def dR(bA cA dA fA:Int)(k2:Y2):R:=aU (bU b6.length 65535) (ai (cA==(0:Int)) (aU (bU (List.length (bS.dd (⟨aA,bA,cA⟩:bS))) 90000) (some ((.bP [(.agg [(.au .u8 (bS.dd (⟨aA,bA,cA⟩:bS))),(.int .i64 (bS.dn (⟨aA,bA,cA⟩:bS))),(.int .i64 (bS.da (⟨aA,bA,cA⟩:bS)))]),.int .i64 (19:Int)]),[]))) (aU (te aA) (ai (bz (whole.P aA) (Int.ofNat aA.length)) (some ((.bP [(.agg [(.au .u8 ([]:ah UInt8)),.int .i64 (0:Int),.int .i64 (0:Int)]),.int .i64 (13:Int)]),[])) (ai (bz (1048576:Int) (i64.wrap ((Int.ofNat aA.length)+(Int.ofNat (List.length (iz b6)))))) (some ((.bP [(.agg [(.au .u8 ([]:ah UInt8)),.int .i64 (0:Int),.int .i64 (0:Int)]),.int .i64 (4:Int)]),[])) (aU (bU (List.length (bS.dd (⟨aA,bA,cA⟩:bS))) 90000) (ai (bg (0:Int) (bS.da (⟨aA,bA,cA⟩:bS))) (ai (bz (bS.da (⟨aA,bA,cA⟩:bS)) (Int.ofNat (List.length (iz b6)))) (aU (bg 0 (0:Int)&&bg (0:Int) (bS.da (⟨aA,bA,cA⟩:bS))&&bg (bS.da (⟨aA,bA,cA⟩:bS)) (Int.ofNat (List.length (iz b6)))) (aU (bU ((List.length (bS.dd (⟨aA,bA,cA⟩:bS))+List.length (List.take (Int.toNat (bS.da (⟨aA,bA,cA⟩:bS))-0) (List.drop 0 (iz b6))))*1) 140737488355328&&bU (List.length (bS.dd (⟨aA,bA,cA⟩:bS))+List.length (List.take (Int.toNat (bS.da (⟨aA,bA,cA⟩:bS))-0) (List.drop 0 (iz b6)))) 9223372036854775807) (some ((.bP [(.agg [(.au .u8 ((bS.dd (⟨aA,bA,cA⟩:bS))++(List.take (Int.toNat (bS.da (⟨aA,bA,cA⟩:bS))-0) (List.drop 0 (iz b6))))),(.int .i64 (bS.dn (⟨aA,bA,cA⟩:bS))),.int .i64 (0:Int)]),.int .i64 (19:Int)]),[])))) (k2 (iz b6) (bS.dd (⟨aA,bA,cA⟩:bS)) (bS.dn (⟨aA,bA,cA⟩:bS)) (bS.da (⟨aA,bA,cA⟩:bS)) dA fA)) (k2 (iz b6) (bS.dd (⟨aA,bA,cA⟩:bS)) (bS.dn (⟨aA,bA,cA⟩:bS)) (bS.da (⟨aA,bA,cA⟩:bS)) dA fA)))))))
def dQ(f8 aA:ah UInt8)(bA cA dA fA:Int)(k3:Y3):R:=aU (bU ((List.length aA+List.length f8)*1) 140737488355328&&bU (List.length aA+List.length f8) 9223372036854775807) (ai (bz (0:Int) cA) (k3 (aA++f8) bA (i64.wrap (cA-(Int.ofNat f8.length))) dA fA) (k3 (aA++f8) bA cA dA fA))
def gf(bA cA dA fA:Int):R:=some ((.bP [.agg [.au .u8 aA,.int .i64 bA,.int .i64 cA],.int .i64 (0:Int)]),[])
abbrev ex:=kf X bd an RR
def cQ:=ex [1,1,1] RR nE
def ib:=ex [1,1,1,1,1,1,1] RR nE
def mz:=ex [1,1,1,1,1,1,1,1,1] RR nE
def f3(bA cA dA fA:Int):R:=gf aA bA cA dA fA
def f2(f8 aA:ah UInt8)(bA cA dA fA:Int):R:=dQ f8 aA bA cA dA fA f3
def f1(bA cA dA fA:Int):R:=dR b6 aA bA cA dA fA f2
def f0:R:=cX d r f1
theorem E3:(λaA bA cA dA fA=>(hid mz) ⟨[(2,.ptr 2 0),(4,.ptr 4 0)],[(2,.box 0 [.cf 500000200,.int .i64 bA,.int .i64 cA]),(4,.box 0 [.cL,.int .i64 dA,.int .i64 fA]),(500000200,.rows .u8 aA)]⟩)=f3:=by funext aA bA cA dA fA;refine cm ?_;unfold f3;exact aa
theorem E2:(λf8 aA bA cA dA fA=>(hid ib) ⟨[(2,.ptr 2 0),(4,.ptr 4 0),(8,.cf 8)],[(8,.rows .u8 f8),(2,.box 0 [.cf 500000200,.int .i64 bA,.int .i64 cA]),(4,.box 0 [.cL,.int .i64 dA,.int .i64 fA]),(500000200,.rows .u8 aA)]⟩)=f2:=by funext f8 aA bA cA dA fA;refine cm ?_;unfold f2;rw[<-E3];exact aa
theorem E1:(λb6 aA bA cA dA fA=>(hid cQ) ⟨[(2,.ptr 2 0),(4,.ptr 4 0),(6,.au .u8 b6)],[(2,.box 0 [.au .u8 aA,.int .i64 bA,.int .i64 cA]),(4,.box 0 [.cL,.int .i64 dA,.int .i64 fA])]⟩)=f1:=by funext b6 aA bA cA dA fA;refine cm ?_;unfold f1;rw[<-E2];exact aa
theorem run:gH X bd an fM [(4,49)] [85,5] [] [.agg [.au .u8 d.dd,.int .i64 d.dn,.int .i64 d.da],.agg [.int .i64 r.ek,.int .i64 r.es,.au .int r.ei,.str r.el,.int .i64 r.et,.str r.em,.int .i64 r.eu,.int .i64 r.ea,.int .i64 r.er,.int .i64 r.eo,.str r.ex]]=f0 d r:=by unfold f0;rw[<-E1];exact aa
theorem aw(h:qZ d r=true):f0 d r=some (qD (bJ d r)):=by
 obtain⟨hr,⟨bs,q,hd,hq⟩,hl⟩:=eP.1 h;obtain⟨g1,g2,g3⟩:=GH hr;show cX d r f1=_;unfold cX;refine(encode.bD (vJ hr)).trans ((encode.bD (eP.2 ⟨bs,q,hd⟩)).trans ((bT rfl).trans ((bT (by rw[g1];rfl)).trans ?_)))
 rw[g2]
 show dR (fT r) d.dd d.dn d.da 0 0 f2=_;unfold dR bJ;refine(encode.bD (c_ ab)).trans ?_;have hf:=oq (fT r)
 generalize hF:iz (fT r)=F at hf;by_cases e0:d.da=0
 ·rw[show(d.da==0)=true by simpa using e0]
  exact(dW rfl).trans (encode.bD (c_ (show d.dd.length<=90000 by omega)))
 ·rw[Py e0]
  have hq:=hq.resolve_right e0;subst hq;have hw:whole.P d.dd=(d.dd.length:Int):=by
   rw[hd.1,whole.lX hd.2.1,cU]
  have h4:=hd.2.2.1;refine(bT rfl).trans ((encode.bD hd.VO).trans ((bT (by rw[hw];exact dF ae)).trans ((bT (dF ?_)).trans ((encode.bD (c_ (show d.dd.length<=90000 by omega))).trans ?_))))
  ·rw[jD (by simp only[aW];omega) (by simp only[aW];omega)]
   simp only[aW];omega
  have go:f2 F d.dd d.dn d.da 0 0=some (qD (⟨d.dd++F,d.dn,bif bz 0 d.da then d.da-Int.ofNat F.length else d.da⟩,0)):=by
   show dQ F d.dd d.dn d.da 0 0 f3=_;unfold dQ;refine(encode.bD (U' ab)).trans ?_;cases e1:bz 0 d.da with
   |true=>rw[jD (by simp only[aW];omega) (by simp only[aW];omega)];rfl
   |false=>rfl
  cases e2:bg 0 d.da with
  |false=>exact(bT rfl).trans go
  |true=>
   refine(dW rfl).trans ?_;cases e3:bz d.da (Int.ofNat F.length)with
   |false=>exact(bT rfl).trans go
   |true=>
    have z0:=ja e2;have z1:=N7 e3;refine(dW rfl).trans ((encode.bD (c2 (c2 rfl rfl) (iI (Int.le_of_lt z1)))).trans ((encode.bD (U' ?_)).trans ?_))
    ·rw[fq,bV];show d.dd.length+_<=_;omega
    ·rfl
theorem ok:bp prog X:=fV lq (yj encode.c.ok (yj rK.c.ok (yj Gz.c.ok (yj whole.c.ok KE)))) pD
theorem jE:kZ prog X:=jx _ (Ja (kU ok rJ.du) MS)
theorem spec(h:(qZ d r)=true):cV prog E 11 [(.agg [(.au .u8 d.dd),(.int .i64 d.dn),(.int .i64 d.da)]),(.agg [(.int .i64 r.ek),(.int .i64 r.es),(.au .int r.ei),(.str r.el),(.int .i64 r.et),(.str r.em),(.int .i64 r.eu),(.int .i64 r.ea),(.int .i64 r.er),(.int .i64 r.eo),(.str r.ex)])] (.bP [(.agg [(.au .u8 (((bJ d r).1).dd)),(.int .i64 (((bJ d r).1).dn)),(.int .i64 (((bJ d r).1).da))]),(.int .i64 ((bJ d r).2))]) []:=cR ok jE call11 func11 aa aa aa (by show 2<=85;decide) af (by rfl) ((run d r).trans (aw d r h))
def sp:Sp U El:=λargs k=>match args with
 |[.agg [.au .u8 nK,.int .i64 nJ,.int .i64 nL],.agg [.int .i64 sO,.int .i64 sI,.au .int sP,.str sN,.int .i64 sH,.str sM,.int .i64 sG,.int .i64 sQ,.int .i64 sJ,.int .i64 sL,.str sF]]=>aU (qZ (⟨nK,nJ,nL⟩:bS) (⟨sO,sI,sP,sN,sH,sM,sG,sQ,sJ,sL,sF⟩:Rec)) (k (.bP [(.agg [(.au .u8 (((bJ (⟨nK,nJ,nL⟩:bS) (⟨sO,sI,sP,sN,sH,sM,sG,sQ,sJ,sL,sF⟩:Rec)).1).dd)),(.int .i64 (((bJ (⟨nK,nJ,nL⟩:bS) (⟨sO,sI,sP,sN,sH,sM,sG,sQ,sJ,sL,sF⟩:Rec)).1).dn)),(.int .i64 (((bJ (⟨nK,nJ,nL⟩:bS) (⟨sO,sI,sP,sN,sH,sM,sG,sQ,sJ,sL,sF⟩:Rec)).1).da))]),(.int .i64 ((bJ (⟨nK,nJ,nL⟩:bS) (⟨sO,sI,sP,sN,sH,sM,sG,sQ,sJ,sL,sF⟩:Rec)).2))]) [])
 |_=>none
theorem du:gQ prog E 11 sp where
 pe:=λvs=>by
  unfold sp;split
  ·exact kK _ _ _
  ·exact⟨none,λ_=>rfl⟩
 ok:=λvs k r h=>by
  unfold sp at h;split at h
  ·obtain⟨h1,h2⟩:=aQ h;exact⟨_,_,.inl (spec ⟨_,_,_⟩ ⟨_,_,_,_,_,_,_,_,_,_,_⟩ h1),h2⟩
  ·cases h
end CR
def fX(d:bS):bS×Int:=bif d.da==0 then(d,19)else(⟨d.dd,Int.ofNat d.dd.length,d.da⟩,0)
def yB(d:bS):Bool:=yb (∃bs q,lY d bs q/\(q=[]\/d.da=0))
namespace L6
variable(d:bS)
def X:Ctx U El:=⟨E,iH,zeros,eqs,lr [(43,rK.c.s),(46,whole.c.s)],100000,31,js [],lO [(45,sY rJ.sp)],λ_=>none⟩
def fM:Norm U:=⟨[],[31,3],[],[],[],[(31,0,.u8)],[]⟩
def f0:R:=aU (Re d) (ai (!(true)) (some ((.bP [(.agg [(.au .u8 ([]:ah UInt8)),.int .i64 (0:Int),.int .i64 (0:Int)]),.int .i64 (1:Int)]),[])) (ai (d.da==(0:Int)) (aU (bU (List.length (bS.dd d)) 90000) (some ((.bP [(.agg [.au .u8 (bS.dd d),.int .i64 (bS.dn d),.int .i64 (bS.da d)]),.int .i64 (19:Int)]),[]))) (aU (te d.dd) (ai (bz (whole.P d.dd) (Int.ofNat d.dd.length)) (some ((.bP [(.agg [(.au .u8 ([]:ah UInt8)),.int .i64 (0:Int),.int .i64 (0:Int)]),.int .i64 (13:Int)]),[])) (aU (bU (List.length (bS.dd d)) 90000) (some ((.bP [(.agg [.au .u8 (bS.dd d),(.int .i64 (Int.ofNat (List.length (bS.dd d)))),.int .i64 (bS.da d)]),.int .i64 (0:Int)]),[])))))))
theorem run:gH X (dG Tryz.f12) .d fM [(2,49)] [31,3] [] [.agg [.au .u8 d.dd,.int .i64 d.dn,.int .i64 d.da]]=f0 d:=aa
theorem aw(h:yB d=true):f0 d=some (qD (fX d)):=by
 obtain⟨bs,q,hd,hq⟩:=eP.1 h;have hl:=hd.len;unfold f0 fX;refine(encode.bD (eP.2 ⟨bs,q,hd⟩)).trans ((bT rfl).trans ?_)
 by_cases e0:d.da=0
 ·rw[show(d.da==0)=true by simpa using e0]
  exact(dW rfl).trans (encode.bD (c_ hl))
 ·rw[Py e0]
  have hq:=hq.resolve_right e0;subst hq;have hw:whole.P d.dd=(d.dd.length:Int):=by
   rw[hd.1,whole.lX hd.2.1,cU]
  exact(bT rfl).trans ((encode.bD hd.VO).trans ((bT (by rw[hw];exact dF ae)).trans (encode.bD (c_ hl))))
theorem ok:bp prog X:=fV lq (yj rK.c.ok (yj whole.c.ok KE)) pD
theorem jE:kZ prog X:=jx _ (Ja (kU ok rJ.du) MS)
theorem spec(h:(yB d)=true):cV prog E 12 [(.agg [(.au .u8 d.dd),(.int .i64 d.dn),(.int .i64 d.da)])] (.bP [(.agg [(.au .u8 (((fX d).1).dd)),(.int .i64 (((fX d).1).dn)),(.int .i64 (((fX d).1).da))]),(.int .i64 ((fX d).2))]) []:=cR ok jE call12 func12 aa aa aa (by show 1<=31;decide) af (by rfl) ((run d).trans (aw d h))
def sp:Sp U El:=λargs k=>match args with
 |[.agg [.au .u8 nK,.int .i64 nJ,.int .i64 nL]]=>aU (yB (⟨nK,nJ,nL⟩:bS)) (k (.bP [(.agg [(.au .u8 (((fX (⟨nK,nJ,nL⟩:bS)).1).dd)),(.int .i64 (((fX (⟨nK,nJ,nL⟩:bS)).1).dn)),(.int .i64 (((fX (⟨nK,nJ,nL⟩:bS)).1).da))]),(.int .i64 ((fX (⟨nK,nJ,nL⟩:bS)).2))]) [])
 |_=>none
theorem du:gQ prog E 12 sp where
 pe:=λvs=>by
  unfold sp;split
  ·exact kK _ _ _
  ·exact⟨none,λ_=>rfl⟩
 ok:=λvs k r h=>by
  unfold sp at h;split at h
  ·obtain⟨h1,h2⟩:=aQ h;exact⟨_,_,.inl (spec ⟨_,_,_⟩ h1),h2⟩
  ·cases h
end L6
def eU(d:bS)(kp:Int):bS×Int:=(⟨sub d.dd 0 (d.dn+kp),d.dn,-1⟩,0)
def we(d:bS)(kp:Int):Bool:=yb ((∃bs q,lY d bs q)/\0<=kp/\kp<=(d.dd.length:Int)-d.dn)
namespace GI
variable(hA:Int)(aA:ah UInt8)(d:bS)(kp:Int)
def X:=dp [rK.c,xp.c] 36
def bd:=dG Tryz.f13
def fM:Norm U:=⟨[],[36,5],[],[],[],[(36,0,.u8)],[]⟩
def RR:bn U El:=λst=>fz X 36 [(4,49)] 36 st λst=>cN fM st (ch [36,5] [])
def an:gb U:=(.seq none .d (.seq (some (⟨[],[1,2,4],[2,4],[],[],[],[(2,0,.u8)]⟩)) .d (.seq none (.region [(11,4)]) .d)))
abbrev Y1:=Int->(ah UInt8)->Int->Int->Int->Int->R
def cX(k1:Y1):R:=aU (Re d) (ai (!(true)) (some ((.bP [(.agg [(.au .u8 ([]:ah UInt8)),.int .i64 (0:Int),.int .i64 (0:Int)]),.int .i64 (1:Int)]),[])) (ai (bz kp (0:Int)) (some ((.bP [(.agg [(.au .u8 ([]:ah UInt8)),.int .i64 (0:Int),.int .i64 (0:Int)]),.int .i64 (2:Int)]),[])) (ai (bz (i64.wrap ((Int.ofNat d.dd.length)-d.dn)) kp) (some ((.bP [(.agg [(.au .u8 ([]:ah UInt8)),.int .i64 (0:Int),.int .i64 (0:Int)]),.int .i64 (2:Int)]),[])) (k1 kp d.dd d.dn d.da (0:Int) (0:Int)))))
def dR(bA cA dA fA:Int):R:=aU (bg 0 (0:Int)&&bg (0:Int) (i64.wrap (bA+hA))&&bg (i64.wrap (bA+hA)) (Int.ofNat aA.length)) (aU (bU (List.length (sub aA (0:Int) (i64.wrap (bA+hA)))) 90000) (some ((.bP [(.agg [(.au .u8 ((sub aA (0:Int) (i64.wrap (bA+hA))))),.int .i64 bA,.int .i64 (-1:Int)]),.int .i64 (0:Int)]),[])))
abbrev ex:=kf X bd an RR
def cQ:=ex [1,1] RR nE
def f1(bA cA dA fA:Int):R:=dR hA aA bA cA dA fA
def f0:R:=cX d kp f1
theorem E1:(λhA aA bA cA dA fA=>(hid cQ) ⟨[(1,.int .i64 hA),(2,.ptr 2 0),(4,.ptr 4 0)],[(2,.box 0 [.au .u8 aA,.int .i64 bA,.int .i64 cA]),(4,.box 0 [.cL,.int .i64 dA,.int .i64 fA])]⟩)=f1:=by funext hA aA bA cA dA fA;refine cm ?_;unfold f1;exact aa
theorem run:gH X bd an fM [(4,49)] [36,5] [] [.agg [.au .u8 d.dd,.int .i64 d.dn,.int .i64 d.da],.int .i64 kp]=f0 d kp:=by unfold f0;rw[<-E1];exact aa
theorem aw(h:we d kp=true):f0 d kp=some (qD (eU d kp)):=by
 obtain⟨⟨bs,q,hd⟩,h0,h1⟩:=eP.1 h;have hl:=hd.len;have hn:=hd.dn;show cX d kp f1=_;unfold cX;have e1:i64.wrap (Int.ofNat d.dd.length-d.dn)=(d.dd.length:Int)-d.dn:=jD (by simp only[aW];omega) (by simp only[aW];omega)
 refine(encode.bD (eP.2 ⟨bs,q,hd⟩)).trans ((bT rfl).trans ((bT (dF ab)).trans ((bT (by rw[e1];exact dF ab)).trans ?_)))
 show dR kp d.dd d.dn d.da 0 0=_;unfold dR;rw[jD (x:=d.dn+kp) ab ab]
 refine(encode.bD (c2 (c2 rfl (iI ab)) (iI (by simp only[aW];omega)))).trans ((encode.bD (c_ ?_)).trans rfl)
 unfold sub;rw[bV,fE]
 omega
theorem ok:bp prog X:=fV lq (ss _) pD
theorem jE:kZ prog X:=λg sp h=>by cases h
theorem spec(h:(we d kp)=true):cV prog E 13 [(.agg [(.au .u8 d.dd),(.int .i64 d.dn),(.int .i64 d.da)]),(.int .i64 kp)] (.bP [(.agg [(.au .u8 (((eU d kp).1).dd)),(.int .i64 (((eU d kp).1).dn)),(.int .i64 (((eU d kp).1).da))]),(.int .i64 ((eU d kp).2))]) []:=cR ok jE call13 func13 aa aa aa (by show 2<=36;decide) af (by rfl) ((run d kp).trans (aw d kp h))
def sp:Sp U El:=λargs k=>match args with
 |[.agg [.au .u8 nK,.int .i64 nJ,.int .i64 nL],.int .i64 kp]=>aU (we (⟨nK,nJ,nL⟩:bS) kp) (k (.bP [(.agg [(.au .u8 (((eU (⟨nK,nJ,nL⟩:bS) kp).1).dd)),(.int .i64 (((eU (⟨nK,nJ,nL⟩:bS) kp).1).dn)),(.int .i64 (((eU (⟨nK,nJ,nL⟩:bS) kp).1).da))]),(.int .i64 ((eU (⟨nK,nJ,nL⟩:bS) kp).2))]) [])
 |_=>none
theorem du:gQ prog E 13 sp where
 pe:=λvs=>by
  unfold sp;split
  ·exact kK _ _ _
  ·exact⟨none,λ_=>rfl⟩
 ok:=λvs k r h=>by
  unfold sp at h;split at h
  ·obtain⟨h1,h2⟩:=aQ h;exact⟨_,_,.inl (spec ⟨_,_,_⟩ _ h1),h2⟩
  ·cases h
end GI
def gI(d:bS):bS×Int:=(⟨sub d.dd 0 (whole.P d.dd),whole.P d.dd,d.da⟩,0)
def wa(d:bS):Bool:=yb (∃bs q,lY d bs q/\d.da≠0)
namespace Md
variable(d:bS)
def X:Ctx U El:=⟨E,iH,zeros,eqs,lr [(43,rK.c.s),(46,whole.c.s),(47,xp.c.s)],100000,28,js [],lO [(45,sY rJ.sp)],λ_=>none⟩
def fM:Norm U:=⟨[],[28,3],[],[],[],[(28,0,.u8)],[]⟩
def an:gb U:=(.seq none .d (.seq none .d (.seq none .d (.seq none (.region [(9,2)]) .d))))
def f0:R:=aU (Re d) (ai (!(true)) (some ((.bP [(.agg [(.au .u8 ([]:ah UInt8)),.int .i64 (0:Int),.int .i64 (0:Int)]),.int .i64 (1:Int)]),[])) (ai (d.da==(0:Int)) (aU (bU (List.length (bS.dd d)) 90000) (some ((.bP [(.agg [.au .u8 (bS.dd d),.int .i64 (bS.dn d),.int .i64 (bS.da d)]),.int .i64 (19:Int)]),[]))) (aU (te d.dd) (aU (bg 0 (0:Int)&&bg (0:Int) (whole.P d.dd)&&bg (whole.P d.dd) (Int.ofNat d.dd.length)) (aU (bU (List.length (sub d.dd (0:Int) (whole.P d.dd))) 90000) (some ((.bP [(.agg [(.au .u8 (sub d.dd (0:Int) (whole.P d.dd))),.int .i64 (whole.P d.dd),.int .i64 d.da]),.int .i64 (0:Int)]),[])))))))
theorem run:gH X (dG Tryz.f14) an fM [(2,49)] [28,3] [] [.agg [.au .u8 d.dd,.int .i64 d.dn,.int .i64 d.da]]=f0 d:=aa
theorem aw(h:wa d=true):f0 d=some (qD (gI d)):=by
 obtain⟨bs,q,hd,h0⟩:=eP.1 h;have hl:=hd.len;have hw:whole.P d.dd=((fL bs).length:Int):=by rw[hd.1,whole.lX hd.2.1]
 have hc:(fL bs).length<=d.dd.length:=by rw[hd.1,aF];omega
 unfold f0;refine(encode.bD (eP.2 ⟨bs,q,hd⟩)).trans ((bT rfl).trans ((bT (Py h0)).trans ((encode.bD hd.VO).trans ((encode.bD (c2 (c2 rfl (iI (by rw[hw];omega))) (iI (by rw[hw];simp only[aW];omega)))).trans ((encode.bD (c_ ?_)).trans rfl)))))
 unfold sub;rw[bV,fE]
 omega
theorem ok:bp prog X:=fV lq (yj rK.c.ok (yj whole.c.ok (yj xp.c.ok KE))) pD
theorem jE:kZ prog X:=jx _ (Ja (kU ok rJ.du) MS)
theorem spec(h:(wa d)=true):cV prog E 14 [(.agg [(.au .u8 d.dd),(.int .i64 d.dn),(.int .i64 d.da)])] (.bP [(.agg [(.au .u8 (((gI d).1).dd)),(.int .i64 (((gI d).1).dn)),(.int .i64 (((gI d).1).da))]),(.int .i64 ((gI d).2))]) []:=cR ok jE call14 func14 aa aa aa (by show 1<=28;decide) af (by rfl) ((run d).trans (aw d h))
def sp:Sp U El:=λargs k=>match args with
 |[.agg [.au .u8 nK,.int .i64 nJ,.int .i64 nL]]=>aU (wa (⟨nK,nJ,nL⟩:bS)) (k (.bP [(.agg [(.au .u8 (((gI (⟨nK,nJ,nL⟩:bS)).1).dd)),(.int .i64 (((gI (⟨nK,nJ,nL⟩:bS)).1).dn)),(.int .i64 (((gI (⟨nK,nJ,nL⟩:bS)).1).da))]),(.int .i64 ((gI (⟨nK,nJ,nL⟩:bS)).2))]) [])
 |_=>none
theorem du:gQ prog E 14 sp where
 pe:=λvs=>by
  unfold sp;split
  ·exact kK _ _ _
  ·exact⟨none,λ_=>rfl⟩
 ok:=λvs k r h=>by
  unfold sp at h;split at h
  ·obtain⟨h1,h2⟩:=aQ h;exact⟨_,_,.inl (spec ⟨_,_,_⟩ h1),h2⟩
  ·cases h
end Md
def DJ(d:bS):Bool:=yb (∃(rs:ah Rec) (q:ah UInt8),(∀r∈rs,jI r=true)/\lY d (rs.map fT) q)
namespace records
variable(gA:ah Rec)(jA:ah (ah UInt8))(kA iA:Int)(d:bS)
def X:=dp [rK.c,kO.c,⟨49,decode.sp,decode.du⟩] 40
def bd:=dG Tryz.f15
def fM:Norm U:=⟨[],[2,3],[],[(2,.jt)],[],[],[]⟩
def RR:bn U El:=λst=>cN fM st (ch [2,3] [])
def eE:Norm U:=⟨[(6,.jt)],[6],[6],[],[],[],[]⟩
def dI:Norm U:=⟨[(6,.jt)],[6,20,21,22],[6],[],[],[],[]⟩
def an:gb U:=(.seq none .d (.seq none .d (.seq none .d (.seq none .d (.seq (some eE) (.seq none .d (.block (.loop dI .d))) .d)))))
abbrev Y1:=(ah Rec)->R
abbrev Y2:=(ah Rec)->(ah (ah UInt8))->Int->Int->R
def fY:St U El:=⟨[(6,.cf 6),(20,.au .o9 jA),(21,.int .i64 kA),(22,.int .i64 iA)],[(6,.rows .jt gA)]⟩
def cX(k2:Y2):R:=aU (Re d) (ai (!(true)) (some ((.bP [(.au .jt ([]:ah Rec)),.int .i64 (1:Int)]),[])) (aU (te d.dd) (k2 ([]:ah Rec) ((kO.P d.dd).1) (Int.ofNat (List.length ((kO.P d.dd).1))) (0:Int))))
def dR:R:=some ((.bP [.au .jt gA,.int .i64 (0:Int)]),[])
def dQ(k1:Y1)(k2:Y2):R:=ai (bz iA kA) (aU (dV iA jA.length) (aU (Il (jA.getD iA.toNat u6)) (ai (((decode.P (jA.getD iA.toNat u6)).2) !=(0:Int)) (some ((.bP [(.au .jt ([]:ah Rec)),(.int .i64 ((decode.P (jA.getD iA.toNat u6)).2))]),[])) (aU (bU ((List.length gA+List.length ([((decode.P (jA.getD iA.toNat u6)).1)]:ah Rec))*128) 140737488355328&&bU (List.length gA+List.length ([((decode.P (jA.getD iA.toNat u6)).1)]:ah Rec)) 9223372036854775807) (k2 (gA++([((decode.P (jA.getD iA.toNat u6)).1)]:ah Rec)) jA kA (i64.wrap (iA+(1:Int)))))))) (k1 gA)
abbrev ex:=kf X bd an RR
abbrev it:=nO X bd an RR
def gu(gW:bn U El):=it dI [1,1,1,1,0,1,0,0] (cu 0 (bG eE gW) nE)
def cQ:=ex [1,1,1,1,1] RR nE
def f1:R:=dR gA
def f2:Nat->Y2
 |0=>λ_ _ _ _=>none
 |n+1=>λgA jA kA iA=>dQ gA jA kA iA f1 (f2 n)
def f0:R:=cX d (f2 100000)
theorem E1:(λgA=>(hid cQ) ⟨[(6,.cf 6)],[(6,.rows .jt gA)]⟩)=f1:=by funext gA;refine cm ?_;unfold f1;exact aa
theorem T2:∀n,(λgA jA kA iA=>gu (hid cQ) n (fY gA jA kA iA))=f2 n:=by
 intro n;induction n with
 |zero=>rfl
 |succ n ih=>funext gA jA kA iA;rw[f2];rw[<-E1,<-ih];exact aa
theorem H2:(λgA jA kA iA=>hid (gu (hid cQ) 100000) (fY gA jA kA iA))=f2 100000:=by rw[cM];exact(T2 100000)
theorem run:ca X bd an fM [2,3] [] [eA .xh d]=f0 d:=by unfold f0;rw[<-H2];exact aa
theorem h_(rs:ah Rec)(h:∀r∈rs,jI r=true)(hl:rs.length<=90000):∀(m i:Nat) (out:ah Rec),rs.length<m+i->i<=rs.length->out.length=i->f2 m out (rs.map fT) (Int.ofNat (rs.map fT).length) (i:Int)=some (IZ .jt (out++rs.drop i,0)):=by
 intro m;induction m with
 |zero=>intro i out h1 h2;omega
 |succ m ih=>
  intro i out h1 h2 h3;show dQ out (rs.map fT) (Int.ofNat (rs.map fT).length) (i:Int) f1 (f2 m)=_;unfold dQ;by_cases hi:i<rs.length
  ·have ku:i<(rs.map fT).length:=by simpa using hi
   have hr:=h _ (bW hi)
   have e:List.getD (rs.map fT) (Int.toNat (i:Int)) u6=fT rs[i]:=by rw[toNat_nat,bQ ku,List.getElem_map]
   have e2:decode.P (fT rs[i])=(rs[i],0):=decode.lX _ hr;refine(dW (eh (by simp;omega))).trans ((encode.bD (c9 ku)).trans ?_)
   rw[e,e2]
   refine(encode.bD (eP.2 ⟨_,hr,rfl⟩)).trans ((bT rfl).trans ((encode.bD (xq ab)).trans ?_))
   rw[eY i ab,ih (i+1) _ ab hi (by simp[h3]),fK hi,b_]
   rfl
  ·have:i=rs.length:=ab
   subst this;refine(bT (dF ae)).trans ?_;rw[bH,cU]
   rfl
theorem back{d:bS}{rs:ah Rec}{q:ah UInt8}(h:∀r∈rs,jI r=true)(hd:lY d (rs.map fT) q):f0 d=some (IZ .jt (rs,0)):=by
 have qx:∀bs:ah (ah UInt8),bs.length<=(fL bs).length:=by
  intro bs;induction bs with
  |nil=>simp
  |cons b bs ih=>simp only[fL,cI,aF,oq];omega
 have h1:=qx (rs.map fT)
 have h2:=hd.2.1.2.2;rw[aF]at h2;rw[gk]at h1;show cX d (f2 100000)=_;unfold cX;refine(encode.bD (eP.2 ⟨_,q,hd⟩)).trans ((bT rfl).trans ((encode.bD hd.VO).trans ?_))
 rw[hd.1,kO.lX hd.2.1]
 exact h_ rs h ab 100000 0 [] ab ab rfl
def P:ah Rec×Int:=Classical.epsilon λa=>f0 d=some (IZ .jt a)
theorem lX{d:bS}{rs:ah Rec}{q:ah UInt8}(h:∀r∈rs,jI r=true)(hd:lY d (rs.map fT) q):P d=(rs,0):=by
 have e:=gD (p:=λa=>f0 d=some (IZ .jt a)) ⟨_,back h hd⟩
 have e:=ez (e.symm.trans (back h hd))
 simp only[IZ,dw,AV.bP.injEq,kC,AV.int.injEq,true_and,and_true]at e;have h1:(P d).1=rs:=eq_of_heq (AV.au.inj e.1).2;exact Prod.ext h1 e.2
theorem aw(h:DJ d=true):f0 d=some (IZ .jt (P d)):=by
 obtain⟨rs,q,h1,h2⟩:=eP.1 h;rw[lX h1 h2]
 exact back h1 h2
def c:Ct:=⟨15,cj (A1 (aR .xh) λd=>(DJ d,(.bP [(.au .jt ((records.P d).1)),(.int .i64 ((records.P d).2))]))),ir call15 func15 (a1 λd e_=>(run d).trans (aw d e_))⟩
end records
end
end Go.Proofs.YtfmamkmmohilgaaGreatDoor
