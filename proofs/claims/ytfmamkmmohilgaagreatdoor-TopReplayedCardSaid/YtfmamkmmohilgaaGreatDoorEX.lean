/- A function's abstract run gives its contract; contracts of calls; rows and tables of this program. Conditions: those of each theorem, none else. -/
import Derived.Test.YtfmamkmmohilgaaGreatDoorLMA
import Derived.Lib.LaidTab
import Derived.Lib.ItoaNum
import Derived.Test.YtfmamkmmohilgaaGreatDoorProg
import Derived.Shelf.Bits.Mul64
import Derived.Shelf.Small.Bits
import Derived.Shelf.Spec.BitsCarry
namespace Go.Proofs.YtfmamkmmohilgaaGreatDoor
open IntKind
set_option linter.all false
open Go.RowKit
section
variable{U:Type}{El:U->Type}{P:Program}{X:Ctx U El}{S S0:Nat->Prop}{ρ:eJ}{w w0:World} [DecidableEq U] [tD]
variable{a:Act}{st:St U El}{B:Bd}{r:Fin U El}
theorem Inv.join{s:Nat}{u:U}{xs:ah (El u)}{l:Loc}(hX:bp P X)(hi:Inv X B S0 w0 S ρ st a w)(hs:ρ s=none)(hv: ∀ρ':eJ,ρ' s=some l->Rel X.E S ρ' w (.cf s) (a.tmps.getD s undef))(hb: ∀ρ',dt X.E S ρ' w B l (.rows u xs))
 (Lu:∀j b l',aN st.h j=some b->ρ j=some l'->l'.n≠0->l.n≠0->l'.b≠l.b):Inv X B S0 w0 S (ρ.set s l) ⟨(s,.cf s)::st.t,(s,.rows u xs)::st.h⟩ a w:=by
 have e1:(ρ.set s l) s=some l:=by simp[eJ.set]
 have lC:∀j l',ρ j=some l'->(ρ.set s l) j=some l':=λj l' h=>by
  by_cases e:j=s
  ·subst e;rw[hs]at h;cases h
  ·simp[eJ.set,e,h]
 refine⟨hi.defers,hi.size,hi.below,hi.hB,hi.s0,hi.s1,hi.g0,λi=>?_,⟨λj b hg=>?_,λi j b b' l1 l2 kY lG gn oL lV o7 pN=>?_,hi.heap.lt⟩⟩
 ·simp only[cC]
  by_cases e:s=i
  ·subst e;rw[aG];exact hv _ e1
  ·rw[aO e];exact(hi.tmps i).mono (λ_ h=>h) (λ_ _=>rfl) lC
 ·simp only[aN]at hg;by_cases e:s=j
  ·subst e;rw[aG]at hg;cases hg;exact⟨l,e1,hb _⟩
  ·rw[aO e]at hg;obtain⟨l',h1,h2⟩:=hi.heap.get j b hg;exact⟨l',lC j l' h1,h2.mono (λ_ h=>h) (λ_ _=>rfl) lC (λhn=>⟨rfl,(h2.lt hn).2.2⟩)⟩
 ·simp only[aN]at kY lG;by_cases ei:s=i
  ·subst ei;rw[e1]at oL;cases oL;rw[aO gn]at lG;have qw:ρ j=some l2:=by simpa[eJ.set,cq gn]using lV
   exact(Lu j b' l2 lG qw pN o7).symm
  ·rw[aO ei]at kY;have rF:ρ i=some l1:=by simpa[eJ.set,cq ei]using oL
   by_cases ej:s=j
   ·subst ej;rw[e1]at lV;cases lV;exact Lu i b l1 kY rF o7 pN
   ·rw[aO ej]at lG;have qw:ρ j=some l2:=by simpa[eJ.set,cq ej]using lV
    exact hi.heap.inj i j b b' l1 l2 kY lG gn rF qw o7 pN
theorem IJ(id s:Nat)(t:eH U El)(i:Nat):cC (Dk id s t) i=(cC t i).mv id s:=by
 induction t with
 |nil=>rfl
 |cons p t ih=>
  obtain⟨j,v⟩:=p;simp only[Dk,cC]
  cases Nat.beq j i<;>simp[ih]
theorem Bu{s:Nat}{u:U}{k:St U El->Option (Fin U El)}(hX:bp P X)(hs:bK X B S0 w0 st a w)(hv:C0 st s u k=some r): ∃bx,bK X B S0 w0 bx a w/\k bx=some r:=by
 obtain⟨S,ρ,hi⟩:=hs;unfold C0 at hv;split at hv
 ·rename_i he;refine⟨_,⟨S,_,(hi.forget hX s).join hX (l:=⟨0,0,X.E.sz u,0⟩) (u:=u) (xs:=[]) (by simp[eJ.del]) (λρ' e=>?_) (λρ'=>⟨rfl,rfl,ae,λh=>absurd rfl h⟩) (λj b l' _ _ _ h=>absurd rfl h)⟩,hv⟩
  have:=hi.tmps s;rw[he]at this;generalize a.tmps.getD s undef=q at this;cases this;exact .j7 s _ e rfl rfl
 ·rename_i id he;by_cases e:id=s
  ·subst e;rw[aG]at hv;exact⟨st,⟨S,ρ,hi⟩,hv⟩
  ·rw[aO e]at hv;simp only[cond]at hv;split at hv
   ·rename_i v xs hg;obtain⟨l,hl,hb⟩:=hi.heap.get _ _ hg;have pO:∀ρ':eJ,dt X.E S ρ' w B l (.rows v xs):=λρ'=>by
     obtain⟨h1,h2,h3,h4⟩:=hb;refine⟨h1,h2,h3,λhn=>?_⟩
     obtain⟨h5,h6,c,hh,h7,h8⟩:=h4 hn;exact⟨h5,h6,c,hh,h7,λi x j a ku hj=>by obtain⟨vv,hv,hr⟩:=h8 i x j a ku hj;exact⟨vv,hv,hr.ew hX.u (hX.u.cell v x a (aD hj))⟩⟩
    have hj:=((hi.forget hX id).forget hX s).join hX (s:=s) (l:=l) (u:=v) (xs:=xs) (by simp[eJ.del]) (λρ' e'=> ?c1) pO (λj b l' lG lV hn oK=> ?c2)
    refine⟨_,⟨S,_,hj.zJ λi=> ?c3⟩,hv⟩
    case c3=>
     show Rel X.E S _ w (cC ((s,.cf s)::Dk id s st.t) i) _;have h0:=hj.tmps i;have es:((((ρ.del id).del s).set s l) s)=some l:=by simp[eJ.set]
     simp only[cC]at h0⊢;by_cases ei:s=i
     ·subst ei;rw[aG]at h0⊢;exact h0
     ·rw[aO ei]at h0⊢;simp only[cond]at h0⊢;rw[IJ]
      have hk:cC (((st.forget id).forget s).t) i=((cC st.t i).kill id).kill s:=by
       show cC (yP s (yP id st.t)) i=_;rw[wL,wL]
      rw[hk]at h0;have hr:=hi.tmps i;unfold AV.mv;split
      ·rename_i i' eC;cases vj:Nat.beq i' id with
       |false=>simp only[cond];rw[eC]at h0;exact h0
       |true=>
        obtain rfl:=al vj;simp only[cond]
        rw[eC]at hr;generalize a.tmps.getD i undef=q at hr;cases hr with
        |cf _ cap l' dq c1 c2=>rw[hl]at dq;cases dq;exact .cf s cap l es c1 c2
        |j7 _ l' dq c1 c2=>rw[hl]at dq;cases dq;exact .j7 s l es c1 c2
      ·rename_i i' YU n' eC;cases vj:Nat.beq i' id with
       |false=>simp only[cond];rw[eC]at h0;exact h0
       |true=>
        obtain rfl:=al vj;simp only[cond]
        rw[eC]at hr;generalize a.tmps.getD i undef=q at hr;cases hr with
        |own _ _ _ cap l' dq c1 c2 c3=>rw[hl]at dq;cases dq;exact .own s YU n' cap l es c1 c2 c3
        |nH _ _ ao cap=>exact .nH s YU ao cap
      ·exact h0
    case c1=>
     have:=hi.tmps s;rw[he]at this;generalize a.tmps.getD s undef=q at this;cases this with
     |cf _ cap l' dq c1 c2=>rw[hl]at dq;cases dq;exact .cf s cap l e' c1 c2
     |j7 _ l' dq c1 c2=>rw[hl]at dq;cases dq;exact .j7 s l e' c1 c2
    case c2=>
     simp only[St.forget,nW,lz,aJ]at lG;obtain⟨b0,h0,_⟩:=lG;split at h0
     ·cases h0
     ·simp only[aJ]at h0;obtain⟨b1,h1,_⟩:=h0;split at h1
      ·cases h1
      ·rename_i e1 e2
       have qw:ρ j=some l':=by
        unfold eJ.del at lV;split at lV
        ·cases lV
        ·first
         |exact lV
         |(split at lV
           ·cases lV
           ·exact lV)
       exact hi.heap.inj j id b1 _ l' l h1 hg e2 qw hl hn oK
   ·cases hv
 ·rename_i id lo len he;obtain⟨iu,qv⟩:=aQ hv;simp only[aj,lU,decide_eq_true_eq]at iu;obtain⟨gr,hlen⟩:=iu;obtain rfl:=al gr;split at qv
  ·rename_i v xs hg;obtain⟨l,hl,hb⟩:=hi.heap.get _ _ hg;have hts:=hi.tmps s;rw[he]at hts;generalize hq:a.tmps.getD s undef=q at hts;cases hts with
   |nH _ _ ao cap=>omega
   |own _ _ _ cap l' dq e1 e2 e3=>
    rw[hl]at dq;cases dq;obtain⟨h1,h2,h3,h4⟩:=hb;have Ju:len<=xs.length:=by rw[<-h2];omega
    refine⟨_,⟨S,_,((hi.forget hX id).forget hX s).join hX (s:=s) (l:=⟨l.b,l.n,l.s,len⟩) (u:=v) (xs:=List.take len xs) (by simp[eJ.del]) (λρ' e'=>?_) (λρ'=>⟨h1,by simp;omega,?_,λhn=>?_⟩) (λj b l' lG lV hn oK=>?_)⟩,qv⟩
    ·rw[hq,show 0*l.s=0 by omega]
     exact .cf s cap ⟨l.b,l.n,l.s,len⟩ e' (by simpa using e1) e2
    ·rw[bV,eV Ju]
     exact ck (bu _ Ju) h3
    ·obtain⟨h5,h6,c,hh,h7,h8⟩:=h4 hn;refine⟨h5,h6,c,hh,h7,λi x j a hx hj=>?_⟩
     have Bk:xs[i]?=some x:=by
      rw[fQ]at hx;split at hx
      ·exact hx
      ·cases hx
     obtain⟨vv,hv,hr⟩:=h8 i x j a Bk hj;exact⟨vv,hv,hr.ew hX.u (hX.u.cell v x a (aD hj))⟩
    ·simp only[St.forget,nW,lz,aJ]at lG;obtain⟨b0,h0,_⟩:=lG;split at h0
     ·cases h0
     ·simp only[aJ]at h0;obtain⟨b1,h1',_⟩:=h0;split at h1'
      ·cases h1'
      ·rename_i e1 e2
       have qw:ρ j=some l':=by
        unfold eJ.del at lV;split at lV
        ·cases lV
        ·first
         |exact lV
         |(split at lV
           ·cases lV
           ·exact lV)
       exact hi.heap.inj j id b1 _ l' l h1' hg e2 qw hl hn oK
  ·cases qv
 ·cases hv
theorem wQ(hX:bp P X):∀(cs:ah (Nat×Nat×U)) (st:St U El) (k:St U El->Option (Fin U El)),bK X B S0 w0 st a w->uG st cs k=some r->∃bx,bK X B S0 w0 bx a w/\k bx=some r:=by
 intro cs;induction cs with
 |nil=>intro st k hs hv;exact⟨st,hs,hv⟩
 |cons c cs ih=>
  intro st k hs hv;obtain⟨s,off,u⟩:=c;obtain⟨qq,h1,h2⟩:=rQ hX hs hv;exact ih qq k h1 h2
theorem Inv.setCell{b tg off:Nat}{cs:ah (AV U El)}{c':AV U El}(hi:Inv X B S0 w0 S ρ st a w)(hg:aN st.h b=some (.box tg cs))(hc: ∀l c e v,ρ b=some l->w.heap[l.b]?=some (.cells c e (0,0))->c[off]?=some v->Rel X.E S ρ w c' v):
 Inv X B S0 w0 S ρ ⟨st.t,iW st.h b (.box tg (cs.set off c'))⟩ a w:=by
 have hcase:∀i c,aN (iW st.h b (.box tg (cs.set off c'))) i=some c->(i=b/\c=.box tg (cs.set off c'))\/(i≠b/\aN st.h i=some c):=λi c h=>by
  rw[jq]at h;by_cases e:i=b
  ·subst e;rw[if_pos rfl,hg]at h;cases h;exact .inl ⟨rfl,rfl⟩
  ·rw[if_neg e]at h;exact .inr ⟨e,h⟩
 refine⟨hi.defers,hi.size,hi.below,hi.hB,hi.s0,hi.s1,hi.g0,hi.tmps,⟨λi c kY=>?_,λi i' c VT l1 l2 kY LL gn oL rF o7 pN=>?_,hi.heap.lt⟩⟩
 ·rcases hcase i c kY with⟨rfl,rfl⟩|⟨_,h⟩
  ·obtain⟨l,hl,b0,b1,b2⟩:=hi.heap.get _ _ hg;refine⟨l,hl,b0,by simpa using b1,λhn=>?_⟩
   obtain⟨b3,b4,c0,e0,hh,b5,b6⟩:=b2 hn;refine⟨b3,b4,c0,e0,hh,b5,λm x hm=>?_⟩
   by_cases em:m=off
   ·subst em;have Vu:m<cs.length:=by have:=(ak.1 hm).1;simpa using this
    rw[fm Vu]at hm;cases hm;have Zo:m<c0.size:=by rw[b5,b1];exact Vu
    exact⟨c0[m],by simp[Zo],hc l c0 e0 _ hl hh (by simp[Zo])⟩
   ·rw[gv (cq em)]at hm;exact b6 m x hm
  ·exact hi.heap.get i c h
 ·have k1: ∃c0,aN st.h i=some c0:=by
   rcases hcase i c kY with⟨rfl,_⟩|⟨_,h⟩
   ·exact⟨_,hg⟩
   ·exact⟨_,h⟩
  have k2:∃c0,aN st.h i'=some c0:=by
   rcases hcase i' VT LL with⟨rfl,_⟩|⟨_,h⟩
   ·exact⟨_,hg⟩
   ·exact⟨_,h⟩
  obtain⟨c1,h1⟩:=k1;obtain⟨c2,h2⟩:=k2;exact hi.heap.inj i i' c1 c2 l1 l2 h1 h2 gn oL rF o7 pN
theorem yU{b off:Nat}{u:U}{k:St U El->Option (Fin U El)}(hX:bp P X)(hs:bK X B S0 w0 st a w)(hv:yV st b off u k=some r): ∃bx,bK X B S0 w0 bx a w/\k bx=some r:=by
 obtain⟨S,ρ,hi⟩:=hs;unfold yV at hv;split at hv
 ·rename_i tg cs hg;have sd:∀l c e v c0,ρ b=some l->w.heap[l.b]?=some (.cells c e (0,0))->c[off]?=some v->cs[off]?=some c0->Rel X.E S ρ w c0 v:=λl c e v c0 hl hh hcv hc0=>by
   obtain⟨l',dq,b0,b1,b2⟩:=hi.heap.get _ _ hg;rw[hl]at dq;cases dq;have hn:l.n≠0:=by have:=(ak.1 hc0).1;omega
   obtain⟨b3,b4,c1,e1,Vx,b5,b6⟩:=b2 hn;rw[hh]at Vx;cases Vx;obtain⟨v',eC,hr⟩:=b6 off c0 hc0;rw[hcv]at eC;cases eC;exact hr
  split at hv
  ·rename_i hc;refine⟨_,⟨S,ρ,hi.setCell hg λl c e v hl hh hcv=>?_⟩,hv⟩
   have:=sd l c e v _ hl hh hcv hc;cases this;exact .jy _ _ _
  ·rename_i id hc;split at hv
   ·rename_i v xs Zx;split at hv
    ·rename_i YB yc qQ;obtain⟨l,hl,hb⟩:=hi.heap.get _ _ Zx;have uw:=hi.share hX Zx hl;refine⟨_,⟨_,_,uw.setCell qQ λlb c e vv Em hh hcv=>?_⟩,hv⟩
     have XK:b≠id:=by
      rintro rfl;simp[eJ.del]at Em
     have Xl:ρ b=some lb:=by simpa[eJ.del,XK]using Em
     exact yy hX hb hl (sd lb c e vv _ Xl hh hcv hc)
    ·exact⟨st,⟨S,ρ,hi⟩,hv⟩
   ·exact⟨st,⟨S,ρ,hi⟩,hv⟩
  ·exact⟨st,⟨S,ρ,hi⟩,hv⟩
 ·exact⟨st,⟨S,ρ,hi⟩,hv⟩
theorem wR(hX:bp P X):∀(cs:ah (Nat×Nat×U)) (st:St U El) (k:St U El->Option (Fin U El)),bK X B S0 w0 st a w->uH st cs k=some r->∃bx,bK X B S0 w0 bx a w/\k bx=some r:=by
 intro cs;induction cs with
 |nil=>intro st k hs hv;exact⟨st,hs,hv⟩
 |cons c cs ih=>
  intro st k hs hv;obtain⟨b,off,u⟩:=c;obtain⟨qq,h1,h2⟩:=yU hX hs hv;exact ih qq k h1 h2
theorem yW(hX:bp P X):∀(cs:ah (Nat×U)) (st:St U El) (k:St U El->Option (Fin U El)),bK X B S0 w0 st a w->yX st cs k=some r->∃bx,bK X B S0 w0 bx a w/\k bx=some r:=by
 intro cs;induction cs with
 |nil=>intro st k hs hv;exact⟨st,hs,hv⟩
 |cons c cs ih=>
  intro st k hs hv;obtain⟨s,u⟩:=c;obtain⟨qq,h1,h2⟩:=sx hX hs hv;exact ih qq k h1 h2
theorem Bv(hX:bp P X):∀(cs:ah (Nat×U)) (st:St U El) (k:St U El->Option (Fin U El)),bK X B S0 w0 st a w->C1 st cs k=some r->∃bx,bK X B S0 w0 bx a w/\k bx=some r:=by
 intro cs;induction cs with
 |nil=>intro st k hs hv;exact⟨st,hs,hv⟩
 |cons c cs ih=>
  intro st k hs hv;obtain⟨s,u⟩:=c;obtain⟨qq,h1,h2⟩:=Bu hX hs hv;exact ih qq k h1 h2
theorem IK(t:eH U El)(l:ah Nat)(i:Nat):cC (vS t l) i=cC t i\/cC (vS t l) i=.any:=by
 induction l with
 |nil=>exact .inr rfl
 |cons s l ih=>
  simp only[vS,cC]
  by_cases e:s=i
  ·subst e;rw[aG];exact .inl rfl
  ·rw[aO e];exact ih
theorem pd(h:bI U El)(l:ah Nat)(j:Nat)(b:qm U El)(hg:aN (rV h l) j=some b):aN h j=some b:=by
 induction l with
 |nil=>cases hg
 |cons s l ih=>
  simp only[rV]at hg;split at hg
  ·rename_i b' pO;simp only[aN]at hg;by_cases e:s=j
   ·subst e;rw[aG]at hg;cases hg;exact pO
   ·rw[aO e]at hg;exact ih hg
  ·exact ih hg
theorem mG{nm:Norm U}{k:St U El->Option (Fin U El)}(hX:bp P X)(hs:bK X B S0 w0 st a w)(hv:cN nm st k=some r):∃bx,bK X B S0 w0 bx a w/\k bx=some r:=by
 obtain⟨V',WR,h00⟩:=Bv hX nm.Pz st _ hs hv;obtain⟨V_,WQ,h01⟩:=ye hX nm.cells V' _ WR h00;obtain⟨V9,WO,h02⟩:=wR hX nm.Mw V_ _ WQ h01;obtain⟨Ns,hs0,h0⟩:=wQ hX nm.KI V9 _ WO h02;obtain⟨qq,⟨S,ρ,hi⟩,h2⟩:=yW hX nm.shares Ns _ hs0 h0;refine⟨_,⟨S,ρ,hi.defers,hi.size,hi.below,hi.hB,hi.s0,hi.s1,hi.g0,λi=>?_,⟨λj b hg=>hi.heap.get j b (pd _ _ _ _ hg),λi j b b' l l' kY lG=>hi.heap.inj i j b b' l l' (pd _ _ _ _ kY) (pd _ _ _ _ lG),hi.heap.lt⟩⟩,h2⟩
 rcases IK qq.t nm.Jg i with e|e
 ·simp only[e];exact hi.tmps i
 ·simp only[e];exact .any _
theorem CT{sR:Iz U El}{id:Nat}{ops:Array Oper}{ws:ah (Nat×Nat)}{K:bn U El}{Q:Exit->Act->World->Prop}(hX:bp P X)(hM:C_ sR P X)(hP:Bw sR X B S0 w0 r Q)(hs:bK X B S0 w0 st a w)(hK: ∀bx a' w',bK X B S0 w0 bx a' w'->K bx=some r->Q .normal a' w')
 (hv:(match ops.toList.getLast? with
      |some o=>bif qz X.nt ops.toList.dropLast ws&&CB X.nt ops.toList.dropLast o then
       (let os:=ops.toList.dropLast
        let Ns:=st.fD (kW os)
        jK X (os.map (·.dst)) (zb (o_ os []) (qi os ws)) ws os 0 Ns.t Ns.h λbx=>ju X [] [o] bx K)
       else none
      |none=>none)=some r):(Code.region id ops true).wp P Q a w:=by
 split at hv
 ·rename_i o xH;cases hc:(qz X.nt ops.toList.dropLast ws&&CB X.nt ops.toList.dropLast o)with
  |false=>rw[hc]at hv;cases hv
  |true=>
   rw[hc]at hv;simp only[cond_true]at hv;obtain⟨hok,gr⟩:=aZ.1 hc;have vW:ops=ops.toList.dropLast.toArray.push o:=by
    apply f_;rw[Array.toList_push]
    have:ops.toList≠[]:=by rintro h;rw[h]at xH;cases xH
    have h2:=List.dropLast_concat_getLast this;rw[List.getLast?_eq_some_getLast this]at xH;cases xH;exact h2.symm
   generalize hio:ops.toList.dropLast=os at hok gr hv vW;have Zv:(os.toArray).toList=os:=rfl;simp only[CB,aj]at gr;obtain⟨⟨⟨⟨g1,g2⟩,g3⟩,g4⟩,g5⟩:=gr;have hf:jX os.toArray ws X.nt:=B4 (ops:=os.toArray) hok;subst vW;refine wp_region_any hX.mixed ?_;have hsz:(os.toArray.push o).size=os.toArray.size+1:=Array.size_push _;have TS:Array.replicate (os.toArray.push o).size false=(Array.replicate os.toArray.size false).push false:=by
    rw[hsz]
    exact Array.replicate_succ
   rw[TS,hsz]
   have LD:∀i,¬((Array.replicate os.toArray.size false).getD i false=true):=λi=>by
    rw[aH]
    by_cases h:i<os.length<;>simp[h]
   refine Fv hf (λi hi=>?_) (λe he hb=>?_) (λi oi g b vh ug=>?_) _ _ a _ ae (λi oi h=>absurd h (LD i)) ?_
   ·exact aP.1 g3 i (mR.2 (by simpa using hi))
   ·have:=aP.1 g4 e (by simpa using he)
    rw[hb]at this;have h3:e.on<os.length:=by simpa using this
    simpa using h3
   ·have hi:i<os.length:=by simpa using(aX.1 vh).1
    have W9:os[i]?=some oi:=by simpa using vh
    have hm:(oi,i)∈os.zipIdx:=by
     rw[im]
     exact W9
    have:=aP.1 g5 _ hm;simp only[ug]at this;exact aV this
   ·refine An (ops:=os.toArray) hX hs hok (λbx a' w' iM rm=>?_) hv;show wpOp P (os.toArray.push o) Q os.toArray.size (Q .normal) a' w';unfold wpOp;rw[dZ,if_pos rfl]
    have Uj:o.guard=none:=by
     revert g1;cases o.guard<;>simp
    have hw:Region.wanted o (yielded (os.toArray.push o) a'.tmps)=true:=by simp[Region.wanted,Uj]
    simp only[hw,if_true]
    refine .inl ?_;simp only[ju,guardOf,Uj]at rm;obtain⟨t',hk,lS⟩:=l7 rm;have CG:bK X B S0 w0 ⟨t',bx.h⟩ a' w':=by
     rcases lS with rfl|⟨g,b,hg,rfl⟩
     ·exact iM
     ·exact iM.refine hg
    obtain⟨KB,⟨S,ρ,hi⟩,yw⟩:=mZ hX CG hk;exact qo hX hM hi yw hP (λHe a3 w3 h3 h4=>hK He a3 w3 h3 h4)
 ·cases hv
def iE:Code->ah (Nat×Code)
 |.seq a b=>iE a++iE b
 |.cond _ a b=>iE a++iE b
 |.block id b=>(id,b)::iE b
 |.loop b=>iE b
 |_=>[]
def Da(P:Program)(X:Ctx U El)(B:Bd)(S0:Nat->Prop)(w0:World)(r:Fin U El)(c:Code):Prop:=
 ∀p∈iE c,∀f,X.Ot p.1=some f-> ∀(st:St U El) (K:bn U El) (a:Act) (w:World) (Q:Exit->Act->World->Prop),bK X B S0 w0 st a w->f st K=some r->
  (∀bx a' w',bK X B S0 w0 bx a' w'->K bx=some r->Q .normal a' w')->(Code.block p.1 p.2).wp P Q a w
abbrev wz(X:Ctx U El):Prop:=X.Ot=λ_=>none
theorem wz.ok(h:wz X)(c:Code):Da P X B S0 w0 r c:=λp _ f hf=>by rw[h]at hf;cases hf
theorem EE{sR:Iz U El}(hX:bp P X)(hM:C_ sR P X): ∀(c:Code),Da P X B S0 w0 r c-> ∀(n:gb U) (st:St U El) (K:bn U El) (E:Nat->bn U El) (R:bn U El) (a:Act) (w:World) (Q:Exit->Act->World->Prop),Bw sR X B S0 w0 r Q->
 (∀bx a' w',bK X B S0 w0 bx a' w'->K bx=some r->Q .normal a' w')->(∀i bx a' w',bK X B S0 w0 bx a' w'->E i bx=some r->Q (.exit i) a' w')->(∀bx a' w',bK X B S0 w0 bx a' w'->R bx=some r->Q .ret a' w')->
 bK X B S0 w0 st a w->exec X c n st K E R=some r->c.wp P Q a w:=by
 intro c;induction c with
 |skip=>intro hF n st K E R a w Q hP hK hE hR hs hv;exact wp_skip (hK st a w hs hv)
 |region id ops dr=>
  intro hF n st K E R a w Q hP hK hE hR hs hv;simp only[exec]at hv;cases dr with
  |true=>
   simp only[cond]at hv;cases hA:n.Y_ with
   |true=>
    rw[hA]at hv;obtain⟨h1,h2⟩:=aQ hv;exact zi hX hM hP hs hK (λo ho e he=>by
     have:=aP.1 h1 o ho;rw[he]at this;exact aV this) h2
   |false=>
   rw[hA]at hv;cases hL:n.Y0 with
   |true=>
    rw[hL]at hv;exact CT hX hM hP hs hK hv
   |false=>
    rw[hL]at hv;cases hok:qz X.nt ops.toList n.ws with
    |false=>rw[hok]at hv;cases hv
    |true=>
     rw[hok]at hv;exact Ao hX hs hok hK hv
  |false=>
   simp only[cond]at hv;obtain⟨h1,h2⟩:=aQ hv;exact Bf hX hM hP hs hK (λo ho e he=>by
    have:=aP.1 h1 o ho;rw[he]at this;exact aV this) h2
 |seq x y Pk MT=>
  intro hF n st K E R a w Q hP hK hE hR hs hv;simp only[exec]at hv;refine wp_seq (Pk (λp hp=>hF p (by simp[iE,hp])) n.fst st _ E R a w _ hP (λbx a' w' iM eC=>?_) (λi bx a' w' iM eC=>hE i bx a' w' iM eC) (λbx a' w' iM eC=>hR bx a' w' iM eC) hs hv)
  cases Uo:n.cut with
  |none=>
   rw[Uo]at eC;exact MT (λp hp=>hF p (by simp[iE,hp])) n.snd bx K E R a' w' Q hP hK hE hR iM eC
  |some nm=>
   rw[Uo]at eC;obtain⟨KB,h1,h2⟩:=mG hX iM eC;rw[cM]at h2;exact MT (λp hp=>hF p (by simp[iE,hp])) n.snd KB K E R a' w' Q hP hK hE hR h1 h2
 |cond c x y Pk MT=>
  intro hF n st K E R a w Q hP hK hE hR hs hv;simp only[exec]at hv;cases c with
  |tmp g=>
   obtain⟨b,hb,eC⟩:=tr hv;have hs2:=hs.refine hb;have sd:a.eval (.tmp g)=.bool b:=by
    obtain⟨S,ρ,hi⟩:=hs;have:=hi.tmps g;rw[hb]at this;show a.tmps.getD g undef=_;generalize a.tmps.getD g undef=q at this;cases this;rfl
   refine wp_cond sd ?_;cases b with
   |true=>exact Pk (λp hp=>hF p (by simp[iE,hp])) n.fst _ K E R a w Q hP hK hE hR hs2 eC
   |false=>exact MT (λp hp=>hF p (by simp[iE,hp])) n.snd _ K E R a w Q hP hK hE hR hs2 eC
  |_=>cases hv
 |block id b ih=>
  intro hF n st K E R a w Q hP hK hE hR hs hv;simp only[exec]at hv;cases sq:X.Ot id with
  |some f=>
   rw[sq]at hv;exact hF (id,b) (by simp[iE]) f sq st K a w Q hs hv hK
  |none=>
  rw[sq]at hv;refine wp_block (ih (λp hp=>hF p (by simp[iE,hp])) n.fst st K _ R a w _ hP (λbx a' w' iM eC=>hK bx a' w' iM eC) (λi bx a' w' iM eC=>?_) (λbx a' w' iM eC=>hR bx a' w' iM eC) hs hv)
  simp only[Exit.inBlock]
  unfold cu at eC;by_cases e:i=id
  ·subst e;rw[aG]at eC;rw[if_pos rfl]
   exact hK bx a' w' iM eC
  ·rw[aO e]at eC;rw[if_neg e]
   exact hE i bx a' w' iM eC
 |loop b ih=>
  intro hF n st K E R a w Q hP hK hE hR hs hv;simp only[exec]at hv;split at hv
  ·rename_i nm _;obtain⟨qq,h1,h2⟩:=mG hX hs hv;rw[cM]at h2;refine wp_loop_rounds X.fuel ?_
   have key:∀(m:Nat) (st:St U El) (a:Act) (w:World),bK X B S0 w0 st a w->iter nm (λbx K'=>exec X b n.fst bx K' E R) m st=some r->Code.rounds P b Q m a w:=by
    intro m;induction m with
    |zero=>intro st a w _ hv;cases hv
    |succ m TE=>
     intro st a w hs hv;simp only[iter]at hv;refine ih (λp hp=>hF p (by simpa[iE]using hp)) n.fst st _ E R a w _ hP (λbx a' w' iM eC=>?_) (λi bx a' w' iM eC=>hE i bx a' w' iM eC) (λbx a' w' iM eC=>hR bx a' w' iM eC) hs hv;obtain⟨KB,g1,g2⟩:=mG hX iM eC;exact TE KB a' w' g1 g2
   exact key X.fuel qq a w h1 h2
  ·refine wp_loop_rounds 64 ?_
   have key:∀(m:Nat) (st:St U El) (a:Act) (w:World),bK X B S0 w0 st a w->HY (λbx K'=>exec X b n.fst bx K' E R) m st=some r->Code.rounds P b Q m a w:=by
    intro m;induction m with
    |zero=>intro st a w _ hv;cases hv
    |succ m TE=>
     intro st a w hs hv;simp only[HY]at hv;exact ih (λp hp=>hF p (by simpa[iE]using hp)) n.fst st _ E R a w _ hP (λbx a' w' iM eC=>TE bx a' w' iM eC) (λi bx a' w' iM eC=>hE i bx a' w' iM eC) (λbx a' w' iM eC=>hR bx a' w' iM eC) hs hv
   exact key 64 st a w hs hv
 |exit id=>intro hF n st K E R a w Q hP hK hE hR hs hv;exact wp_exit (hE id st a w hs hv)
 |ret=>intro hF n st K E R a w Q hP hK hE hR hs hv;exact wp_ret (hR st a w hs hv)
 |_=>intro hF n st K E R a w Q hP hK hE hR hs hv;simp[exec]at hv
theorem xK(hX:bp P X)(hM:kZ P X)(c:Code)(hF:Da P X B S0 w0 r c)(n:gb U)(st:St U El)(K:bn U El)(E:Nat->bn U El)(R:bn U El)(a:Act)(w:World)(Q:Exit->Act->World->Prop)
 (h1:∀bx a' w',bK X B S0 w0 bx a' w'->K bx=some r->Q .normal a' w') (h2:∀i bx a' w',bK X B S0 w0 bx a' w'->E i bx=some r->Q (.exit i) a' w') (h3:∀bx a' w',bK X B S0 w0 bx a' w'->R bx=some r->Q .ret a' w')
 (h4:bK X B S0 w0 st a w) (h5:exec X c n st K E R=some r):c.wp P Q a w:=EE (sR:=K9) hX hM.g c hF n st K E R a w Q .no h1 h2 h3 h4 h5
theorem mw(hF:wz X)(hX:bp P X)(hM:kZ P X)(c:Code):∀(n:gb U) (st:St U El) (K:bn U El) (E:Nat->bn U El) (R:bn U El) (a:Act) (w:World) (Q:Exit->Act->World->Prop),
 (∀bx a' w',bK X B S0 w0 bx a' w'->K bx=some r->Q .normal a' w')->(∀i bx a' w',bK X B S0 w0 bx a' w'->E i bx=some r->Q (.exit i) a' w')->(∀bx a' w',bK X B S0 w0 bx a' w'->R bx=some r->Q .ret a' w')->
 bK X B S0 w0 st a w->exec X c n st K E R=some r->c.wp P Q a w:=xK hX hM c (hF.ok c)
def wT(tmps:Array Value):ah Nat->Value
 |[t]=>tmps.getD t undef
 |res=>.tuple (res.map λt=>tmps.getD t undef).toArray
theorem Ge(X:Ctx U El)(m n0:Nat)(k:St U El->Option (Fin U El)):∀(lR:ah (Nat×TypeId)) (p:Nat) (st:St U El),fz {X with nt:=m} n0 lR p st k=fz X n0 lR p st k:=by
 intro lR;induction lR with
 |nil=>intro p st;rfl
 |cons q lR ih=>
  intro p st;simp only[fz,ih]
  rfl
theorem om{n0:Nat}{k:St U El->Option (Fin U El)}: ∀(lR:ah (Nat×TypeId)) (X:Ctx U El) (st:St U El) (a:Act),bp P X->Inv X B S0 w0 S ρ st a w->n0<=X.nt->fz X n0 lR X.nt st k=some r->
 ∃(sw:ah Value) (bx:St U El),sw.length=lR.length/\k bx=some r/\(∀(i:Nat) (q:Nat×TypeId),lR[i]?=some q->q.1<n0/\ ∃v,sw[i]?=some v/\(do loadVar q.2 (<-asAddr (a.tmps.getD q.1 undef))).run P w=.ok v w)/\
  bp P {X with nt:=X.nt+lR.length}/\Inv {X with nt:=X.nt+lR.length} B S0 w0 S ρ bx {a with tmps:=a.tmps++sw.toArray} w:=by
 intro lR;induction lR with
 |nil=>intro X st a hX hi _ hv;exact⟨[],st,rfl,hv,(λi q h=>by cases h),hX,by simpa using hi⟩
 |cons q lR ih=>
  obtain⟨b,ty⟩:=q;intro X st a hX hi hn hv;simp only[fz]at hv;split at hv
  ·rename_i td gM;split at hv
   ·rename_i sz ag vk;obtain⟨hb,hv⟩:=aQ hv;have hb:b<n0:=aV hb;obtain⟨cs,off,bb,o',hk,WV,hc⟩:=Di hX hi.heap (λ_ _ h=>h) (hi.tmps b) hv;obtain⟨ht,hz⟩:=Cb (hX.td _ _ gM) vk;obtain⟨av,v,rm,de,hr⟩:=BS ht hz hc hk;have hX1:bp P {X with nt:=X.nt+1}:=⟨hX.mixed,hX.u,hX.td,hX.z,hX.one,hX.eq,hX.pe,hX.VS,hX.spec⟩
    have AP:Inv {X with nt:=X.nt+1} B S0 w0 S ρ ⟨(X.nt,av)::st.t,st.h⟩ {a with tmps:=a.tmps.push v} w:=by
     refine⟨hi.defers,by simp[hi.size],hi.below,hi.hB,hi.s0,hi.s1,hi.g0,λi=>?_,hi.heap⟩
     simp only[cC]
     by_cases e:X.nt=i
     ·subst e;rw[aG,aH,<-hi.size,Array.getElem?_push_size]
      exact hr
     ·rw[aO e]
      have:(a.tmps.push v).getD i undef=a.tmps.getD i undef:=by
       rw[aH,aH,dZ,if_neg (by rw[hi.size];exact λh=>e h.symm)]
      rw[this]
      exact hi.tmps i
    obtain⟨sw,bx,h1,h2,h3,h4,h5⟩:=ih {X with nt:=X.nt+1} _ _ hX1 AP (Nat.le_succ_of_le hn) (by rw[Ge];exact rm)
    have e1:X.nt+1+lR.length=X.nt+(lR.length+1):=ab
    refine⟨v::sw,bx,by simp[h1],h2,λi q hq=>?_,by simpa[e1]using h4,?_⟩
    ·cases i with
     |zero=>
      cases hq;refine⟨hb,v,rfl,?_⟩
      simp[WV,asAddr,de]
     |succ i=>
      obtain⟨g1,x,g2,g3⟩:=h3 i q (by simpa using hq)
      refine⟨g1,x,by simpa using g2,?_⟩
      have:(a.tmps.push v).getD q.1 undef=a.tmps.getD q.1 undef:=by
       rw[aH,aH,dZ,if_neg (by rw[hi.size];omega)]
      rw[this]at g3;exact g3
    ·have e2:a.tmps.push v++sw.toArray=a.tmps++(v::sw).toArray:=by
      apply f_;simp
     simp only[e2]at h5;simpa[e1]using h5
   ·cases hv
  ·cases hv
theorem oZ{fn:Func}{lR:ah (Nat×TypeId)}{res:ah Nat}{nt:Nat}{tmps:Array Value}{sw:ah Value}{w:World}(h:fn.results=(res.map (xQ nt lR)).toArray)(hsz:tmps.size=nt)(hl:sw.length=lR.length)
 (hv:∀(i:Nat) (q:Nat×TypeId),lR[i]?=some q->q.1<nt/\∃v,sw[i]?=some v/\(do loadVar q.2 (<-asAddr (tmps.getD q.1 undef))).run P w=.ok v w):(results fn tmps).run P w=.ok (wT (tmps++sw.toArray) res) w:=by
 have key:∀(f:ResultVar->Sem Value),(∀t,f (.tmp t)=pure (tmps.getD t undef))->(∀b ty,f (.cell b ty)=(do loadVar ty (<-asAddr (tmps.getD b undef))))->∀l:ah Nat,((l.map (xQ nt lR)).mapM f).run P w=.ok (l.map λt=>(tmps++sw.toArray).getD t undef) w:=by
  intro f hf hc l;induction l with
  |nil=>simp
  |cons t l ih=>
   have h1:(f (xQ nt lR t)).run P w=.ok ((tmps++sw.toArray).getD t undef) w:=by
    unfold xQ;split
    ·rename_i hlt;rw[hf,Sem.run_pure]
     congr 1;rw[aH,aH,gF ab]
    ·rename_i hlt;cases hq:lR[t-nt]? with
     |none=>
      have:lR.length<=t-nt:=by simpa using hq
      simp only;rw[hf,Sem.run_pure]
      congr 1;rw[aH,aH,fW ab,fW (by simp;omega)]
     |some q=>
      obtain⟨_,v,g1,g2⟩:=hv _ q hq;simp only;rw[hc,g2]
      congr 1;rw[aH,Array.getElem?_append_right ab,hsz]
      simp[g1]
   simp only[dx,List.mapM_cons,h1,Sem.run_bind,Sem.run_pure,Result.andThen_ok,ih]
 unfold results;rw[h]
 simp only[Sem.run_bind]
 rw[Array.mapM_eq_mapM_toList]
 simp only[List.toList_toArray,Sem.run_map]
 rw[key _ (λ_=>rfl) (λ_ _=>rfl)]
 simp only[Result.andThen_ok,Sem.run_pure]
 congr 1;match res with
 |[]=>rfl
 |[t]=>rfl
 |t::u::l=>simp[wT]
theorem Aj:∀(l:ah Nat) (n:Nat) (id:Nat) (p:Nat×Nat),(jU l n).find? (λp=>Nat.beq p.1 id)=some p->p.1=id/\n<=p.2/\l[p.2-n]?=some id:=by
 intro l;induction l with
 |nil=>intro n id p h;simp[jU]at h
 |cons i l ih=>
  intro n id p h;simp only[jU,List.find?_cons]at h;by_cases e:i=id
  ·subst e;simp only[aG]at h;cases h;simp
  ·simp only[aO e]at h;obtain⟨h1,h2,h3⟩:=ih (n+1) id p h;refine⟨h1,ab,?_⟩
   rw[show p.2-n=(p.2-(n+1))+1 by omega,ic]
   exact h3
theorem vI{f:FuncId}{fn:Func}{body:Code}{nm:Norm U}{lR:ah (Nat×TypeId)}{res ex:ah Nat}{args:ah (AV U El)}{v:AV U El}{h:bI U El}(hX:bp P X)(hM:kZ P X)(kH: ∀aaa w,(callFunc f aaa).run P w=.ok (.enter f aaa) w)
 (hf:P.funcs[f]?=some fn) (hb:fn.body=some body) (wD:fn.ntmps=X.nt) (fJ:fn.results=(res.map (xQ X.nt lR)).toArray) (qT:args.length<=X.nt) (hex:ex.Nodup) (h4:(h.map (·.1)).all (λi=>Nat.blt i 4)=true)
 (hv:∀(S:Nat->Prop) (w:World) (a:Act),X.E.G w->bK X (From w) S w ⟨mL args 0,[]⟩ a w->∀Q:Exit->Act->World->Prop,(∀bx a' w',bK X (From w) S w bx a' w'->(fz X X.nt lR X.nt bx λst=>cN nm st (ch res ex))=some (v,h)->Q .normal a' w'/\Q .ret a' w')->body.wp P Q a w):cV P X.E f args v h:=by
 have Aa:∀(l:ah (Nat×Nat)) (H r:bI U El),Bo H l=some r->∀j b,aN r j=some b->∃id u xs,(id,j)∈l/\b=.rows u xs/\aN H id=some (.rows u xs):=by
  intro l;induction l with
  |nil=>intro H r hr j b hg;simp[Bo]at hr;subst hr;cases hg
  |cons p l ih=>
   intro H r hr j b hg;obtain⟨id,m⟩:=p;simp only[Bo]at hr;split at hr
   ·rename_i u xs kY;split at hr
    ·rename_i r' nP;cases hr;simp only[aN]at hg;by_cases e:m=j
     ·subst e;rw[aG]at hg;cases hg;exact⟨id,u,xs,ae,rfl,kY⟩
     ·rw[aO e]at hg;obtain⟨j6,u',M5,g1,g2,g3⟩:=ih H r' nP j b hg;exact⟨j6,u',M5,by simp[g1],g2,g3⟩
    ·cases hr
   ·cases hr
 have nV:∀(l:ah Nat) (n id m:Nat),(id,m)∈jU l n->n<=m/\l[m-n]?=some id:=by
  intro l;induction l with
  |nil=>intro n id m h;simp[jU]at h
  |cons i l ih=>
   intro n id m h;simp only[jU,bN,dw]at h;rcases h with⟨rfl,rfl⟩|h
   ·simp
   ·obtain⟨h1,h2⟩:=ih (n+1) id m h;exact⟨ab,by rw[show m-n=(m-(n+1))+1 by omega,ic];exact h2⟩
 have hfin:∀bx,ch res ex bx=some (v,h)->∃vs,Bn (jU ex 0) (res.map (cC bx.t))=some vs/\Bo bx.h (jU ex 0)=some h/\(∀x,vs=[x]->v=x)/\((∀x,vs≠[x])->v=.bP vs):=by
  intro bx hr;unfold ch at hr;split at hr
  ·rename_i x hh e1 e2;cases hr;exact⟨_,e1,e2,λy hy=>by cases hy;rfl,λhn=>absurd rfl (hn _)⟩
  ·rename_i vs hh e1 e2 e3;cases hr;exact⟨_,e2,e3,λy hy=>absurd hy (e1 y),λ_=>rfl⟩
  ·cases hr
 refine⟨kH,λj b hg=>?_,λS w vs hlt hG hrel=>?_⟩
 ·have: ∀(l:bI U El),(l.map (·.1)).all (λi=>Nat.blt i 4)=true->aN l j=some b->j<4:=by
   intro l;induction l with
   |nil=>intro _ h;cases h
   |cons p l ih=>
    intro h1 h2;obtain⟨i,c⟩:=p;simp only[dx,l6,aj]at h1;simp only[aN]at h2;by_cases e:i=j
    ·subst e;exact aV h1.1
    ·rw[aO e]at h2;exact ih h1.2 h2
  exact this h h4 hg
 ·refine calls_of_wp hf hb ?_;have hsz:(vs++Array.replicate (fn.ntmps-vs.size) undef).size=X.nt:=by
   have:=hrel.1;simp;omega
  have Ep:∀(l:ah (AV U El)) (m i:Nat),cC (mL l m) i=if m<=i then(l[i-m]?).getD .any else .any:=by
   intro l;induction l with
   |nil=>intro m i;simp[mL,cC]
   |cons c l ih=>
    intro m i;simp only[mL,cC]
    by_cases e:m=i
    ·subst e;simp[aG]
    ·rw[aO e,ih]
     simp only[cond]
     by_cases h1:m<=i
     ·rw[if_pos ab,if_pos h1,show i-m=(i-(m+1))+1 by omega,ic]
     ·rw[if_neg ab,if_neg h1]
  have h0:bK X (From w) S w ⟨mL args 0,[]⟩ {tmps:=vs++Array.replicate (fn.ntmps-vs.size) undef,defers:=[]} w:=by
   refine⟨S,λ_=>none,rfl,hsz,Fr.refl _ _,λ_ hk=>hk,λ_ h=>h,λ_ h=>.inl h,λw' hb=>hX.u.Q7 _ _ hG hb.below,λi=>?_,fa.nil hlt _⟩
   show Rel X.E S _ w (cC (mL args 0) i) _;rw[Ep]
   simp only[eS,if_true,hJ]
   cases hc:args[i]? with
   |none=>exact .any _
   |some c=>
    have hi:i<vs.size:=by rw[hrel.1];exact(ak.1 hc).1
    simp only[eL]
    rw[aH,gF hi,aC hi]
    exact hrel.2 i c _ hc (aC hi)
  have Lx: ∀(X':Ctx U El) (bx:St U El) (a':Act) (w':World),X'.E=X.E->bK X' (From w) S w bx a' w'->ch res ex bx=some (v,h)-> ∃v' S' ρ',Ending.returned (wT a'.tmps res)=.returned v'/\Step S (λ_=>none) w S' ρ' w'/\fa X.E S' ρ' w' (From w) h/\Rel X.E S' ρ' w' v v':=by
   rintro X' bx a' w' hE ⟨S',ρ',hi⟩ hr;have Dc:=hi.heap;have J0:=hi.tmps;rw[hE]at Dc J0;obtain⟨cs,e1,e2,e3,e4⟩:=hfin bx hr;refine⟨_,S',λm=>(ex[m]?).bind ρ',rfl,⟨hi.below,hi.s0,hi.s1,λ_ _ h=>(by cases h),hlt⟩,?_,?_⟩
   ·refine⟨λj b hg=>?_,λi j b b' l l' kY lG gn oL lV hn oK=>?_,Dc.lt⟩
    ·obtain⟨id,u,xs,g1,rfl,g2⟩:=Aa _ _ _ e2 j b hg;obtain⟨_,g3⟩:=nV _ _ _ _ g1;obtain⟨l,hl,hb⟩:=Dc.get id _ g2;refine⟨l,by simp only[hJ]at g3;simp[g3,hl],?_⟩
     obtain⟨h1,h2,h3,h4⟩:=hb;refine⟨h1,h2,h3,λhn=>?_⟩
     obtain⟨h5,h6,c,hh,h7,h8⟩:=h4 hn;exact⟨h5,h6,c,hh,h7,λi x j a ku hj=>by obtain⟨vv,hv,hr⟩:=h8 i x j a ku hj;exact⟨vv,hv,hr.ew hX.u (hX.u.cell u x a (aD hj))⟩⟩
    ·obtain⟨id,u,xs,g1,_,g2⟩:=Aa _ _ _ e2 i b kY;obtain⟨j6,u',M5,k1,_,k2⟩:=Aa _ _ _ e2 j b' lG;obtain⟨_,g3⟩:=nV _ _ _ _ g1;obtain⟨_,k3⟩:=nV _ _ _ _ k1;simp only[hJ]at g3 k3;simp only[g3,k3,iK]at oL lV;refine Dc.inj id j6 _ _ l l' g2 k2 ?_ oL lV hn oK;rintro rfl;obtain⟨q1,q2⟩:=ak.1 g3;obtain⟨q3,q4⟩:=ak.1 k3;exact gn ((mS q1 hex).1 (g3.trans k3.symm))
   ·have one: ∀(t:Nat) (c:AV U El),ED (jU ex 0) (cC bx.t t)=some c->Rel X.E S' (λm=>(ex[m]?).bind ρ') w' c (a'.tmps.getD t undef):=by
     intro t c hc;have Jp:=J0 t;generalize a'.tmps.getD t undef=q at Jp⊢;unfold ED at hc;split at hc
     ·rename_i id e;rw[e]at Jp;split at hc
      ·rename_i p hp;cases hc;obtain⟨_,_,g⟩:=Aj _ _ _ _ hp;simp only[hJ]at g;cases Jp with
       |cf _ cap l hl h1 h2=>exact .cf _ cap l (by simp[g,hl]) h1 h2
       |j7 _ l hl h1 h2=>exact .j7 _ l (by simp[g,hl]) h1 h2
      ·cases hc
     ·rename_i yc e;rw[e]at Jp;cases hall:yc.all AV.cell with
      |false=>rw[hall]at hc;cases hc
      |true=>
       rw[hall]at hc;cases hc;cases Jp with
       |agg _ MO hl Ly=>exact .agg _ _ hl λi c v Fm WE=>(Ly i c v Fm WE).ew hX.u (by simp at hall;exact hall c (aD Fm))
     ·cases hcell:(cC bx.t t).cell with
      |false=>rw[hcell]at hc;cases hc
      |true=>rw[hcell]at hc;cases hc;exact Jp.ew hX.u hcell
    have all:∀(l:ah Nat) (ds:ah (AV U El)),Bn (jU ex 0) (l.map (cC bx.t))=some ds->ds.length=l.length/\∀(i:Nat) d t,ds[i]?=some d->l[i]?=some t->Rel X.E S' (λm=>(ex[m]?).bind ρ') w' d (a'.tmps.getD t undef):=by
     intro l;induction l with
     |nil=>intro ds h;simp[Bn]at h;subst h;simp
     |cons t l ih=>
      intro ds h;simp only[dx,Bn]at h;split at h
      ·rename_i d hd;split at h
       ·rename_i Mh Ab;cases h;obtain⟨g1,g2⟩:=ih Mh Ab;refine⟨by simp[g1],λi d' t' rZ AO=>?_⟩
        cases i with
        |zero=>simp at rZ AO;subst rZ AO;exact one _ _ hd
        |succ i=>exact g2 i d' t' (by simpa using rZ) (by simpa using AO)
       ·cases h
      ·cases h
    obtain⟨g1,g2⟩:=all res cs e1;match Lw:res,g1 with
    |[t],g1=>
     obtain⟨c,rfl⟩:∃c,cs=[c]:=by
      match cs,g1 with
      |[c],_=>exact⟨c,rfl⟩
     rw[e3 c rfl]
     exact g2 0 c t rfl rfl
    |[],g1=>
     have:cs=[]:=bq g1;subst this;rw[e4 ae]
     exact .bP _ _ ae ae
    |t::u::l,g1=>
     have gn:∀x,cs≠[x]:=λx hx=>by subst hx;simp at g1
     rw[e4 gn]
     refine .bP _ _ (by simp[g1]) λi c v hc hv=>?_
     have hl:i<(t::u::l).length:=by rw[<-g1];exact(ak.1 hc).1
     have:v=a'.tmps.getD ((t::u::l)[i]) undef:=by
      simp only[cZ,bo,az hl,eK,bX]at hv;exact hv.symm
     rw[this]
     exact g2 i c _ hc (az hl)
  have Eg:∀bx a' w',bK X (From w) S w bx a' w'->fz X X.nt lR X.nt bx (λst=>cN nm st (ch res ex))=some (v,h)->a'.defers=[]/\∃x,(results fn a'.tmps).run P w'=.ok x w'/\∃v' S' ρ',Ending.returned x=.returned v'/\Step S (λ_=>none) w S' ρ' w'/\fa X.E S' ρ' w' (From w) h/\Rel X.E S' ρ' w' v v':=by
   rintro bx a' w' ⟨S1,nM,hi⟩ hr;obtain⟨sw,KB,l1,l2,l3,l4,l5⟩:=om lR X bx a' hX hi (aY _) hr;obtain⟨He,n1,n2⟩:=mG l4 ⟨S1,nM,l5⟩ l2;exact⟨hi.defers,_,oZ fJ hi.size l1 l3,Lx {X with nt:=X.nt+lR.length} He _ w' rfl n1 n2⟩
  exact hv S w _ hG h0 _ λbx a' w' hs hr=>⟨Eg bx a' w' hs hr,Eg bx a' w' hs hr⟩
theorem Be{f:FuncId}{fn:Func}{body:Code}{n:gb U}{nm:Norm U}{lR:ah (Nat×TypeId)}{res ex:ah Nat}{args:ah (AV U El)}{v:AV U El}{h:bI U El}(hX:bp P X)(hM:kZ P X)(kH:∀aaa w,(callFunc f aaa).run P w=.ok (.enter f aaa) w)
 (hf:P.funcs[f]?=some fn) (hb:fn.body=some body) (wD:fn.ntmps=X.nt) (fJ:fn.results=(res.map (xQ X.nt lR)).toArray) (qT:args.length<=X.nt) (hex:ex.Nodup) (h4:(h.map (·.1)).all (λi=>Nat.blt i 4)=true)
 (hv:gH X body n nm lR res ex args=some (v,h)) (hF:∀(S:Nat->Prop) (w:World),Da P X (From w) S w (v,h) body):cV P X.E f args v h:=by
 refine vI (nm:=nm) (lR:=lR) (res:=res) (ex:=ex) hX hM kH hf hb wD fJ qT hex h4 λS w a hG h0 Q hk=>?_
 exact xK (r:=(v,h)) hX hM body (hF S w) n _ _ _ _ _ _ Q (λbx a' w' hs hr=>(hk bx a' w' hs hr).1) (λi bx a' w' hs hr=>by cases hr) (λbx a' w' hs hr=>(hk bx a' w' hs hr).2) h0 hv
theorem cR{f:FuncId}{fn:Func}{body:Code}{n:gb U}{nm:Norm U}{lR:ah (Nat×TypeId)}{res ex:ah Nat}{args:ah (AV U El)}{v:AV U El}{h:bI U El}(hX:bp P X)(hM:kZ P X)(kH:∀aaa w,(callFunc f aaa).run P w=.ok (.enter f aaa) w)
 (hf:P.funcs[f]?=some fn) (hb:fn.body=some body) (wD:fn.ntmps=X.nt) (fJ:fn.results=(res.map (xQ X.nt lR)).toArray) (qT:args.length<=X.nt) (hex:ex.Nodup) (h4:(h.map (·.1)).all (λi=>Nat.blt i 4)=true)
 (hv:gH X body n nm lR res ex args=some (v,h)) (hF:wz X:=by rfl):cV P X.E f args v h:=
 Be (nm:=nm) (lR:=lR) (res:=res) (ex:=ex) hX hM kH hf hb wD fJ qT hex h4 hv λS w=>hF.ok body
theorem zd(nt:Nat):xQ nt []=ResultVar.tmp:=by funext r;unfold xQ;split<;>rfl
theorem Dy{f:FuncId}{fn:Func}{body:Code}{n:gb U}{nm:Norm U}{res ex:ah Nat}{args:ah (AV U El)}{v:AV U El}{h:bI U El}(hX:bp P X)(hM:kZ P X)(kH:∀aaa w,(callFunc f aaa).run P w=.ok (.enter f aaa) w)
 (hf:P.funcs[f]?=some fn) (hb:fn.body=some body) (wD:fn.ntmps=X.nt) (fJ:fn.results=(res.map ResultVar.tmp).toArray) (qT:args.length<=X.nt) (hex:ex.Nodup) (h4:(h.map (·.1)).all (λi=>Nat.blt i 4)=true)
 (hv:O4 X body n nm res ex args=some (v,h)) (hF:wz X:=by rfl):cV P X.E f args v h:=
 cR (lR:=[]) hX hM kH hf hb wD (by rw[zd];exact fJ) qT hex h4 hv hF
theorem N6{E:fZ U El}{t:TypeId}{i:TypeInfo}{z:Value}{u:U}(hi:P.info? t=some i)(hs:i.size=E.sz u)(hb:i.bytes=E.AR u)(hz:i.zero=some z)(yq:z.cells.size=E.sz u)(he:E.enc u (E.iL u)=jL.kP z.cells.toList):
 ∃i z,P.info? t=some i/\i.size=E.sz u/\i.bytes=E.AR u/\i.zero=some z/\z.cells.size=E.sz u/\
  ∀(j:Nat) c,(E.enc u (E.iL u))[j]?=some c->∃v,z.cells[j]?=some v/\∀S ρ w,Rel E S ρ w c v:=
 ⟨i,z,hi,hs,hb,hz,yq,λj c hj=>by
  rw[he]at hj;have hl:j<z.cells.toList.length:=by rw[<-rL (U:=U) (El:=El)];exact(ak.1 hj).1
  exact⟨_,by rw[<-bO];exact az hl,λS ρ w=>rM _ j c _ hj (az hl)⟩⟩
abbrev Sp(U:Type)(El:U->Type):=ah (AV U El)->(AV U El->bI U El->Option (Fin U El))->Option (Fin U El)
structure gQ (P:Program) (E:fZ U El) (f:FuncId) (sp:Sp U El):Prop where
 pe:∀vs,∃oo:Option (AV U El×bI U El),∀k,sp vs k=oo.bind λp=>k p.1 p.2
 ok:∀vs k r,sp vs k=some r->∃res ex,(cV P E f vs res ex\/yH P E f vs res ex)/\k res ex=some r
def lr:ah (FuncId×Sp U El)->FuncId->Sp U El
 |[],_=>λ_ _=>none
 |(g,sp)::l,f=>bif Nat.beq g f then sp else lr l f
theorem BE{E:fZ U El}:∀(l:ah (FuncId×Sp U El)),(∀p∈l,gQ P E p.1 p.2)->∀f,gQ P E f (lr l f):=by
 intro l;induction l with
 |nil=>intro _ f;exact⟨λvs=>⟨none,λk=>rfl⟩,λvs k r h=>by cases h⟩
 |cons p l ih=>
  intro h f;obtain⟨g,sp⟩:=p;simp only[lr]
  by_cases e:g=f
  ·subst e;rw[aG];exact h (g,sp) ae
  ·rw[aO e];exact ih (λp hp=>h p (by simp[hp])) f
structure Iy (P:Program) (E:fZ U El) (iH:List (TypeId×TD U)) (zeros:List (TypeId×Value)) (eqs:List (TypeId×List Nat)):Prop where
 mixed:P.follows .mixedOrders=true
 u:oJ P E
 td:∀t d,dS iH t=some d->G8 P E t d
 z:∀t v,xN zeros t=some v->∃i,P.info? t=some i/\i.zero=some v
 one:∀t td,dS iH t=some td->∃i,P.info? t=some i/\(PD P t=false->i.size=1)
 eq:∀t,uh eqs t≠[]->Rz P t (uh eqs t)
def js:ah (FuncId×wF U El)->FuncId->Option (wF U El)
 |[],_=>none
 |(g,sp)::l,f=>bif Nat.beq g f then some sp else js l f
theorem GJ{E:fZ U El}:∀(l:ah (FuncId×wF U El)),(∀p∈l,wB P E p.1 p.2)->∀f sp,js l f=some sp->wB P E f sp:=by
 intro l;induction l with
 |nil=>intro _ f sp h;cases h
 |cons p l ih=>
  intro h f sp hs;obtain⟨g,q⟩:=p;simp only[js]at hs;by_cases e:g=f
  ·subst e;rw[aG]at hs;cases hs;exact h (g,sp) ae
  ·rw[aO e]at hs;exact ih (λp hp=>h p (by simp[hp])) f sp hs
theorem fV{E:fZ U El}{iH:ah (TypeId×TD U)}{zeros:ah (TypeId×Value)}{eqs:ah (TypeId×ah Nat)}{l:ah (FuncId×Sp U El)}{ds:ah (FuncId×wF U El)}{fuel nt:Nat}{m:FuncId->Option (Nat->ah (AV U El)->St U El->(AV U El->St U El->Option (Fin U El))->Option (Fin U El))}{fg:Nat->Option (St U El->(St U El->Option (Fin U El))->Option (Fin U El))}(hT:Iy P E iH zeros eqs)(hl:∀p∈l,gQ P E p.1 p.2)(hd:∀p∈ds,wB P E p.1 p.2):bp P ⟨E,iH,zeros,eqs,lr l,fuel,nt,js ds,m,fg⟩:=⟨hT.mixed,hT.u,hT.td,hT.z,hT.one,hT.eq,λf vs=>(BE l hl f).pe vs,GJ ds hd,λf vs k r h=>(BE l hl f).ok vs k r h⟩
theorem Kt{iH:ah (TypeId×TD U)}{Q:TypeId->TD U->Prop}(h:∀p∈iH,Q p.1 p.2):∀t d,dS iH t=some d->Q t d:=by
 induction iH with
 |nil=>intro t d hd;cases hd
 |cons p l ih=>
  intro t d hd;obtain⟨j,e⟩:=p;simp only[dS]at hd;by_cases hj:j=t
  ·subst hj;rw[aG]at hd;cases hd;exact h (j,d) ae
  ·rw[aO hj]at hd;exact ih (λp hp=>h p (by simp[hp])) t d hd
theorem R3{zs:ah (TypeId×Value)}{Q:TypeId->Value->Prop}(h:∀p∈zs,Q p.1 p.2):∀t d,xN zs t=some d->Q t d:=by
 induction zs with
 |nil=>intro t d hd;cases hd
 |cons p l ih=>
  intro t d hd;obtain⟨j,e⟩:=p;simp only[xN]at hd;by_cases hj:j=t
  ·subst hj;rw[aG]at hd;cases hd;exact h (j,d) ae
  ·rw[aO hj]at hd;exact ih (λp hp=>h p (by simp[hp])) t d hd
theorem UU{es:ah (TypeId×ah Nat)}{Q:TypeId->ah Nat->Prop}(h:∀p∈es,Q p.1 p.2):∀t,uh es t≠[]->Q t (uh es t):=by
 induction es with
 |nil=>intro t hd;exact absurd rfl hd
 |cons p l ih=>
  intro t hd;obtain⟨j,e⟩:=p;simp only[uh]at hd⊢;by_cases hj:j=t
  ·subst hj;rw[aG];exact h (j,e) ae
  ·rw[aO hj]at hd⊢;exact ih (λp hp=>h p (by simp[hp])) t hd
end
end Go.Proofs.YtfmamkmmohilgaaGreatDoor
namespace Go.Proofs.YtfmamkmmohilgaaGreatDoor
open IntKind
set_option linter.all false
def oM:ah Nat->Code->Code
 |[],c=>c
 |0::p,.seq a _=>oM p a
 |1::p,.seq _ b=>oM p b
 |0::p,.cond _ a _=>oM p a
 |1::p,.cond _ _ b=>oM p b
 |0::p,.block _ b=>oM p b
 |0::p,.loop b=>oM p b
 |_,_=>.skip
section
variable{U:Type}{El:U->Type}{P:Program}{E:fZ U El} [tD]
def Ro:Option Value->Bool
 |some (.agg cs)=>match cs.toList with
  |[.pointer none,.slice none 0 0]=>true
  |_=>false
 |_=>false
theorem OI{z:Option Value}(h:Ro z=true):z=some (.agg #[.pointer none,.slice none 0 0]):=by
 unfold Ro at h;split at h
 ·rename_i cs;split at h
  ·rename_i e;congr 2;apply f_;simpa using e
  ·cases h
 ·cases h
def P2:Option Value->Bool
 |some (.pointer none)=>true
 |_=>false
theorem ND{z:Option Value}(h:P2 z=true):z=some (.pointer none):=by
 unfold P2 at h;split at h
 ·rfl
 ·cases h
def Ku(P:Program)(E:fZ U El)(t:TypeId)(td:TD U):Bool:=
 (match P.info? t with|some i=>PD P t||Nat.beq i.size 1|none=>false)&&
 match P.underlying t,td with
 |some d,.one=> !(C5 d)
 |some .bool,.bool=>true
 |some (.pointer _),.ptr=>true
 |some (.interface _),.iface=>true
 |some (.int k),.int k'=>decide (k=k')
 |some .string,.str=>true
 |some (.slice e),.slice u=>Nat.beq e (E.tid u)
 |some (.map k e),.map u v=>Nat.beq k (E.tid u)&&Nat.beq e (E.tid v)
 |some (.map k e),.jC u=>Nat.beq k (E.tid u)&&(match P.underlying e,P.info? e with
  |some (.pointer _),some i=>P2 i.zero
  |_,_=>false)
 |some (.struct fields),.struct fs sz=>
  (match P.info? t with|some i=>Nat.beq i.size sz&&(match i.zero with|some z=>Nat.beq z.cells.size sz|none=>false)|none=>false)&&
  !(P.stoodInHeld t)&& !(P.eqGuardType P.depth t)&&decide (fs=fields.toList.map (λf=>(f.offset,MQ P f.type,PD P f.type)))&&
  fields.toList.all λf=>(P.underlying f.type).isSome&&(match P.info? f.type with|some i=> !(Nat.beq i.size 0)|none=>false)
 |some _,.uk u=>Nat.beq (E.sz u) 1&&(match P.info? t with|some i=>Nat.beq i.size 2&&Ro i.zero|none=>false)
 |some (.array n e),.arr n' es ea sz=>
  Nat.beq n n'&&(match P.info? t with|some i=>Nat.beq i.size sz&&(match i.zero with|some z=>Nat.beq z.cells.size sz|none=>false)|none=>false)&&
  (match P.info? e with|some i=>Nat.beq i.size es|none=>false)&&(match P.underlying e with|some d=>C5 d==ea|none=>false)
 |_,_=>false
theorem Dq{t:TypeId}{td:TD U}(h:Ku P E t td=true):G8 P E t td/\ ∃i,P.info? t=some i/\(PD P t=false->i.size=1):=by
 unfold Ku at h;rw[aj]at h;obtain⟨h0,h⟩:=h;refine⟨?_,?_⟩
 ·split at h
  ·rename_i d hu;exact⟨d,hu,by simpa using h⟩
  ·rename_i hu;exact hu
  ·rename_i e hu;exact⟨e,hu⟩
  ·rename_i e hu;exact⟨e,hu⟩
  ·rename_i k k' hu;have:k=k':=by simpa using h
   subst this;exact hu
  ·rename_i hu;exact hu
  ·rename_i e u hu;have:=al h;subst this;exact hu
  ·rename_i k e u v hu;simp only[aj]at h;have h1:=al h.1;have h2:=al h.2;subst h1 h2;exact hu
  ·rename_i k e u hu;simp only[aj]at h;have h1:=al h.1;subst h1;have h2:=h.2;split at h2
   ·rename_i e' i MV hi;exact⟨e,e',hu,MV,i,hi,ND h2⟩
   ·cases h2
  ·rename_i fields fs sz hu;simp only[aj,cF,decide_eq_true_eq]at h;obtain⟨⟨⟨⟨h1,h2⟩,h3⟩,h4⟩,h5⟩:=h;refine⟨fields,hu,?_,h2,h3,h4,λf hf=>?_⟩
   ·split at h1
    ·rename_i i hi;simp only[aj]at h1;obtain⟨e1,e2⟩:=h1;split at e2
     ·rename_i z hz;exact⟨i,hi,al e1,z,hz,al e2⟩
     ·cases e2
    ·cases h1
   ·have:=aP.1 h5 f hf;simp only[aj]at this;obtain⟨e1,e2⟩:=this;refine⟨g'.1 e1,?_⟩
    split at e2
    ·rename_i i hi;exact⟨i,hi,λe=>by rw[e]at e2;cases e2⟩
    ·cases e2
  ·rename_i d u hu;simp only[aj]at h;obtain⟨h1,h2⟩:=h;split at h2
   ·rename_i i hi;simp only[aj]at h2;exact⟨al h1,⟨d,hu⟩,i,hi,al h2.1,OI h2.2⟩
   ·cases h2
  ·rename_i n e n' es ea sz hu;simp only[aj]at h;obtain⟨⟨⟨h1,h2⟩,h3⟩,h4⟩:=h;obtain rfl:=al h1;refine⟨e,hu,?_,?_,?_⟩
   ·split at h2
    ·rename_i i hi;simp only[aj]at h2;obtain⟨e1,e2⟩:=h2;split at e2
     ·rename_i z hz;exact⟨i,hi,al e1,z,hz,al e2⟩
     ·cases e2
    ·cases h2
   ·split at h3
    ·rename_i i hi;exact⟨i,hi,al h3⟩
    ·cases h3
   ·split at h4
    ·rename_i d hd;exact⟨d,hd,by simpa using h4⟩
    ·cases h4
  ·cases h
 ·split at h0
  ·rename_i i hi;refine⟨i,hi,λhe=>?_⟩
   rw[he]at h0;exact al (by simpa using h0)
  ·cases h0
def Ij(P:Program)(t:TypeId)(ts:ah Nat):Bool:=
 match P.underlying t with
 |some (.struct fields)=> !(P.stoodInHeld t)&& !(P.eqGuardType P.depth t)&&Nat.beq fields.toList.length ts.length&&
  (fields.toList.zip ts).zipIdx.all λ((f,k),i)=> !(f.name== "_")&&Nat.beq f.offset i&&(match k,P.underlying f.type with
   |0,some (.int _)=>true
   |1,some .bool=>true
   |2,some .string=>true
   |_,_=>false)
 |some (.array n e)=> !(P.eqGuardType P.depth t)&&(P.info? e).isSome&&Nat.beq (P.cellsOf e) 1&&(match ts with
  |k::_=>decide (ts=List.replicate n k)&&(match k,P.underlying e with
   |0,some (.int _)=>true
   |1,some .bool=>true
   |2,some .string=>true
   |_,_=>false)
  |[]=>false)
 |_=>false
theorem EH{t:TypeId}{ts:ah Nat}(h:Ij P t ts=true):Rz P t ts:=by
 unfold Ij at h;split at h
 ·rename_i fields hu;simp only[aj,cF]at h;obtain⟨⟨⟨h1,h2⟩,h3⟩,h4⟩:=h;refine .inl ⟨fields,hu,h1,h2,al h3,λi f k hf hk=>?_⟩
  have hz:((f,k),i)∈(fields.toList.zip ts).zipIdx:=by
   rw[im]
   simp[List.getElem?_zip_eq_some,hf,hk]
  have:=aP.1 h4 _ hz;simp only[aj,cF]at this;obtain⟨⟨e1,e2⟩,e3⟩:=this;refine⟨by simpa using e1,al e2,?_⟩
  split at e3
  ·rename_i kd rm;exact⟨kd,rm⟩
  ·rename_i rm;exact rm
  ·rename_i rm;exact rm
  ·cases e3
 ·rename_i n e hu;simp only[aj,cF]at h;obtain⟨⟨⟨h1,h2⟩,h3⟩,h4⟩:=h;obtain⟨ie,hi⟩:=g'.1 h2;split at h4
  ·rename_i k MP;simp only[aj,decide_eq_true_eq]at h4;refine .inr ⟨n,e,ie,k,hu,hi,al h3,h1,h4.1,?_⟩
   have h5:=h4.2;split at h5
   ·rename_i kd rm;exact⟨kd,rm⟩
   ·rename_i rm;exact rm
   ·rename_i rm;exact rm
   ·cases h5
  ·cases h4
 ·cases h
theorem O1 [DecidableEq U]{iH:ah (TypeId×TD U)}{zeros:ah (TypeId×Value)}{eqs:ah (TypeId×ah Nat)}(hm:P.follows .mixedOrders=true)(hu:oJ P E)(ht:(iH.all λp=>Ku P E p.1 p.2)=true)
 (hz:∀p∈zeros,∃i,P.info? p.1=some i/\i.zero=some p.2) (he:(eqs.all λp=>Ij P p.1 p.2)=true):Iy P E iH zeros eqs:=
 ⟨hm,hu,Kt λp hp=>(Dq (aP.1 ht p hp)).1,R3 hz,Kt λp hp=>(Dq (aP.1 ht p hp)).2,UU λp hp=>EH (aP.1 he p hp)⟩
end
end Go.Proofs.YtfmamkmmohilgaaGreatDoor
namespace Go.Proofs.YtfmamkmmohilgaaGreatDoor
open IntKind
set_option linter.all false
open Go.RowKit Go.Lib
section
variable{U:Type}{El:U->Type}{P:Program}{X:Ctx U El}{S S0:Nat->Prop}{ρ:eJ}{w w0:World} [DecidableEq U] [tD]
variable{a:Act}{st:St U El}{B:Bd}{d:Nat}{r:Fin U El}
theorem IL{n:String}{k:IntKind}{zs:ah Int}{w w':World}(h:TabIs P w n k zs)(hb:Below w.heap.size w w'):TabIs P w' n k zs:=by
 unfold TabIs World.var? at h⊢;cases hg:P.globalNamed n with
 |none=>rw[hg]at h;cases h
 |some g=>
  rw[hg]at h;simp only[iK]at h⊢;have hlt:g<w.heap.size:=by
   rcases Nat.lt_or_ge g w.heap.size with h'|h'
   ·exact h'
   ·rw[fW h']at h;cases h
  rw[hb.block g hlt]
  exact h
abbrev PF(U:Type)(El:U->Type):=Nat->ah (AV U El)->St U El->(AV U El->St U El->Option (Fin U El))->Option (Fin U El)
def lO:ah (FuncId×PF U El)->FuncId->Option (PF U El)
 |[],_=>none
 |(g,sp)::l,f=>bif Nat.beq g f then some sp else lO l f
theorem jx:∀(l:ah (FuncId×PF U El)),(∀p∈l,rj P X p.1 p.2)->∀g sp,lO l g=some sp->rj P X g sp:=by
 intro l;induction l with
 |nil=>intro _ g sp h;cases h
 |cons p l ih=>
  intro h g sp hg;obtain⟨f,q⟩:=p;simp only[lO]at hg;by_cases e:f=g
  ·subst e;rw[aG]at hg;cases hg;exact h (f,sp) ae
  ·rw[aO e]at hg;exact ih (λp hp=>h p (by simp[hp])) g sp hg
structure yI (g:Option Nat) (w w':World):Prop where
 os:w'.os=w.os
 tape:w'.tape=w.tape
 output:w'.output=w.output
 size:w'.heap.size=w.heap.size
 drawn:tD.on->w.drawn<=w'.drawn
 block:∀k,some k≠g->w'.heap[k]?=w.heap[k]?
theorem yI.drew(w:World)(g:Option Nat):yI g w w.drew:=⟨rfl,rfl,rfl,rfl,λ_=>Nat.le_succ _,λ_ _=>rfl⟩
structure Rv (Q:Nat->Prop) (w w':World):Prop where
 os:w'.os=w.os
 tape:w'.tape=w.tape
 output:w'.output=w.output
 size:w.heap.size<=w'.heap.size
 drawn:tD.on->w.drawn<=w'.drawn
 block:∀k,k<w.heap.size->¬Q k->w'.heap[k]?=w.heap[k]?
theorem yI.mono{g:Option Nat}{Q:Nat->Prop}{w':World}(h:yI g w w')(hq:∀k,some k=g->Q k):Rv Q w w':=⟨h.os,h.tape,h.output,Nat.le_of_eq h.size.symm,h.drawn,λk _ hk=>h.block k (λe=>hk (hq k e))⟩
theorem Inv.add{s:Nat}{u:U}{xs:ah (El u)}{l:Loc}(hi:Inv X B S0 w0 S ρ st a w)(hs:ρ s=none)(hb: ∀ρ',dt X.E S ρ' w B l (.rows u xs))
 (Lu:∀j b l',aN st.h j=some b->ρ j=some l'->l'.n≠0->l.n≠0->l'.b≠l.b):Inv X B S0 w0 S (ρ.set s l) ⟨st.t,(s,.rows u xs)::st.h⟩ a w:=by
 have e1:(ρ.set s l) s=some l:=by simp[eJ.set]
 have lC:∀j l',ρ j=some l'->(ρ.set s l) j=some l':=λj l' h=>by
  by_cases e:j=s
  ·subst e;rw[hs]at h;cases h
  ·simp[eJ.set,e,h]
 refine⟨hi.defers,hi.size,hi.below,hi.hB,hi.s0,hi.s1,hi.g0,λi=>(hi.tmps i).mono (λ_ h=>h) (λ_ _=>rfl) lC,⟨λj b hg=>?_,λi j b b' l1 l2 kY lG gn oL lV o7 pN=>?_,hi.heap.lt⟩⟩
 ·simp only[aN]at hg;by_cases e:s=j
  ·subst e;rw[aG]at hg;cases hg;exact⟨l,e1,hb _⟩
  ·rw[aO e]at hg;obtain⟨l',h1,h2⟩:=hi.heap.get j b hg;exact⟨l',lC j l' h1,h2.mono (λ_ h=>h) (λ_ _=>rfl) lC (λhn=>⟨rfl,(h2.lt hn).2.2⟩)⟩
 ·simp only[aN]at kY lG;by_cases ei:s=i
  ·subst ei;rw[e1]at oL;cases oL;rw[aO gn]at lG;have qw:ρ j=some l2:=by simpa[eJ.set,cq gn]using lV
   exact(Lu j b' l2 lG qw pN o7).symm
  ·rw[aO ei]at kY;have rF:ρ i=some l1:=by simpa[eJ.set,cq ei]using oL
   by_cases ej:s=j
   ·subst ej;rw[e1]at lV;cases lV;exact Lu i b l1 kY rF o7 pN
   ·rw[aO ej]at lG;have qw:ρ j=some l2:=by simpa[eJ.set,cq ej]using lV
    exact hi.heap.inj i j b b' l1 l2 kY lG gn rF qw o7 pN
end
end Go.Proofs.YtfmamkmmohilgaaGreatDoor
namespace Go.Proofs.YtfmamkmmohilgaaGreatDoor
open IntKind
set_option linter.all false
open Go.RowKit
section
variable{U:Type}{El:U->Type}{P:Program}{E:fZ U El}{S:Nat->Prop}{ρ:eJ}{w:World} [tD]
theorem xE{u:U}{d:TypeDesc}(ha:E.agg u=false)(hd:P.underlying (E.tid u)=some d)(hk: ∀{S:Nat->Prop} {ρ:eJ} {w:World} {x:El u} {v:Value},gz E S ρ w u x v->MapKept.IsKey d v)
 (hq:∀{S:Nat->Prop} {ρ:eJ} {w:World} {x y:El u} {v v':Value},gz E S ρ w u x v->gz E S ρ w u y v'->(v=v'↔E.nu u x y=true)):AE P E u where
 check:=λem h=>MapKept.run_checkKey hd (hk h) em 9999
 find:=λ{S ρ w x v} es xs hx hl Ia=>by
  have key:∀(es:ah MapEntry) (xs:ah (El u)) (n:Nat),es.length=xs.length->(∀(i:Nat) e y,es[i]?=some e->xs[i]?=some y->gz E S ρ w u y e.key)->
   Instr.findNow d v es n=some ((na (E.nu u) xs x).bind λi=>(es[i]?).map λe=>(n+i,e.val)):=by
   intro es;induction es with
   |nil=>
    intro xs n hl _;have:xs=[]:=bq (by simpa using hl.symm)
    subst this;rfl
   |cons e es ih=>
    intro xs n hl Ia;cases xs with
    |nil=>simp at hl
    |cons y xs=>
     have hy:=Ia 0 e y rfl rfl;obtain⟨r,hr,Eo⟩:=MapKept.sameNow_of_keys (hk hx) (hk hy)
     have Bm:=hq hx hy;simp only[Instr.findNow,hr,na]
     cases r with
     |true=>
      rw[Bm.1 (Eo.1 rfl)]
      simp
     |false=>
      have:E.nu u x y=false:=by
       cases h:E.nu u x y
       ·rfl
       ·have:=Eo.2 (Bm.2 h);cases this
      rw[this]
      simp only[cond_false]
      rw[ih xs (n+1) (by simpa using hl) (λi e y he hy=>Ia (i+1) e y (by simpa using he) (by simpa using hy))]
      cases na (E.nu u) xs x with
      |none=>rfl
      |some i=>simp[fb,Nat.add_comm 1 i]
  have:=key es xs 0 hl Ia;simp only[bZ]at this;exact MapKept.run_findKey hd this
 stays:=λ{S ρ w x y v v'} hx hy h=>by
  have:=(hq hx hy).2 h;subst this;exact MapKept.run_keyThatStays (hk hx)
theorem JP{ts:ah Nat}: ∀{cx cy:ah (AV U El)} {ax ay:ah Value},gS ts cx cy=some true->ax.length=cx.length->ay.length=cy.length->(∀(i:Nat) c v,cx[i]?=some c->ax[i]?=some v->Rel E S ρ w c v)->(∀(i:Nat) c v,cy[i]?=some c->ay[i]?=some v->Rel E S ρ w c v)->
 ax=ay/\∀v∈ax,∀n,Instr.sameBits n v v=true:=by
 induction ts with
 |nil=>
  intro cx cy ax ay h h1 h2 _ _;unfold gS at h;split at h<;>simp_all
 |cons k ts ih=>
  intro cx cy ax ay h h1 h2 hx hy
  have step:∀(c c':AV U El) (x y:ah (AV U El)),cx=c::x->cy=c'::y->∃v vs v' MO,ax=v::vs/\ay=v'::MO/\Rel E S ρ w c v/\Rel E S ρ w c' v'/\(gS ts x y=some true->vs=MO/\∀v∈vs,∀n,Instr.sameBits n v v=true):=by
   intro c c' x y e1 e2;subst e1 e2;cases ax with
   |nil=>simp at h1
   |cons v vs=>
    cases ay with
    |nil=>simp at h2
    |cons v' MO=>
     exact⟨v,vs,v',MO,rfl,rfl,hx 0 c v rfl rfl,hy 0 c' v' rfl rfl,λh=>ih h (by simpa using h1) (by simpa using h2) (λi c v hc hv=>hx (i+1) c v (by simpa using hc) (by simpa using hv)) (λi c v hc hv=>hy (i+1) c v (by simpa using hc) (by simpa using hv))⟩
  unfold gS at h;split at h
  ·cases ‹k::ts=[]›
  ·rename_i MP ka av x kb bv y e;cases e;obtain⟨v,vs,v',MO,rfl,rfl,r1,r2,hs⟩:=step _ _ _ _ rfl rfl;cases r1;cases r2;cases hd:decide (ka=kb)with
   |false=>rw[hd]at h;cases h
   |true=>
    rw[hd]at h;have hk:ka=kb:=by simpa using hd
    subst hk;simp only[cond_true]at h;split at h
    ·rename_i r hr;simp only[bX,aj,beq_iff_eq]at h;obtain⟨rfl,rfl⟩:=h;obtain⟨g1,g2⟩:=hs hr;subst g1;refine⟨rfl,λv hv n=>?_⟩
     rcases bN.1 hv with rfl|hv
     ·cases n<;>simp[Instr.sameBits]
     ·exact g2 v hv n
    ·cases h
  ·rename_i MP av x bv y e;cases e;obtain⟨v,vs,v',MO,rfl,rfl,r1,r2,hs⟩:=step _ _ _ _ rfl rfl;cases r1;cases r2;split at h
   ·rename_i r hr;simp only[bX,aj,beq_iff_eq]at h;obtain⟨rfl,rfl⟩:=h;obtain⟨g1,g2⟩:=hs hr;subst g1;refine⟨rfl,λv hv n=>?_⟩
    rcases bN.1 hv with rfl|hv
    ·cases n<;>simp[Instr.sameBits]
    ·exact g2 v hv n
   ·cases h
  ·rename_i MP av x bv y e;cases e;obtain⟨v,vs,v',MO,rfl,rfl,r1,r2,hs⟩:=step _ _ _ _ rfl rfl;cases r1;cases r2;split at h
   ·rename_i r hr;simp only[bX,aj,beq_iff_eq]at h;obtain⟨rfl,rfl⟩:=h;obtain⟨g1,g2⟩:=hs hr;subst g1;refine⟨rfl,λv hv n=>?_⟩
    rcases bN.1 hv with rfl|hv
    ·exact MapKept.sameBits_self (d:=.string) (k:=.string _) trivial n
    ·exact g2 v hv n
   ·cases h
  ·cases h
theorem xR{cs:Array Value}{n:Nat}{em:Bool}: ∀(fs:ah Field),(∀f∈fs,f.name≠ "_" /\(∃k,xw P f.type k)/\ ∃v,cs[f.offset]?=some v)->
 (forIn (m:=Sem) fs PUnit.unit λf _=>do
  if f.name≠ "_" then Instr.checkKey em (n+1) f.type (<-part f.type cs f.offset)
  pure (ForInStep.yield PUnit.unit)).run P w=.ok PUnit.unit w:=by
 intro fs;induction fs with
 |nil=>intro _;simp
 |cons f fs ih=>
  intro h;obtain⟨h1,⟨k,hk⟩,v,hv⟩:=h f ae
  have hp:∀{d:TypeDesc},P.underlying f.type=some d->C5 d=false->(part f.type cs f.offset).run P w=.ok v w:=λhu ha=>by simp[part,jR hu,ha,hv]
  have hc:(Instr.checkKey em (n+1) f.type v).run P w=.ok () w/\(part f.type cs f.offset).run P w=.ok v w:=by
   match k,hk with
   |0,⟨kd,hu⟩=>exact⟨by unfold Instr.checkKey;simp only[Sem.run_bind,run_underlying hu,Result.andThen_ok];cases v<;>rfl,hp hu rfl⟩
   |1,hu=>exact⟨by unfold Instr.checkKey;simp only[Sem.run_bind,run_underlying (show P.underlying f.type=some .bool from hu),Result.andThen_ok];cases v<;>rfl,hp hu rfl⟩
   |k+2,hu=>exact⟨by unfold Instr.checkKey;simp only[Sem.run_bind,run_underlying (show P.underlying f.type=some .string from hu),Result.andThen_ok];cases v<;>rfl,hp hu rfl⟩
  simp only[List.forIn_cons,Sem.run_bind,h1,ne_eq,not_false_eq_true,if_true,hc.1,hc.2,Result.andThen_ok,Sem.run_pure]
  exact ih λf hf=>h f (by simp[hf])
theorem JG [DecidableEq U]{X:Ctx U El}{t:TypeId}{ts:ah Nat}{cx cy:ah (AV U El)}{ax ay:Array Value}{b:Bool}(hX:X.E=E)(hk:IA P t ts)(hx:pb E S ρ w cx ax)(hy:pb E S ρ w cy ay)(h:gS ts cx cy=some b):(Op.equal t (.agg ax) (.agg ay)).run P w=.ok b w:=by
 subst hX;obtain⟨fields,hu,mq,heq,hl,hf⟩:=hk;have Uk:P.fieldsOf t=fields:=by simp[Program.fieldsOf,hu]
 show(Op.equalIn (9999+1) t (.agg ax) (.agg ay)).run P w=.ok b w;rw[run_equalIn_agg w 9999 t ax ay (by rw[Uk];exact hu) mq,Uk]
 exact xL (X:=X) (P:=P) (S:=S) (ρ:=ρ) (w:=w) (ty:=t) ts cx cy 0 fields.toList ax ay b (λi f k hf1 Jv=>by simpa using hf i f k hf1 Jv) hl (λi c hc=>by
  have hi:i<ax.size:=by rw[hx.1];exact(ak.1 hc).1
  exact⟨ax[i],by simp[hi],hx.2 i c _ hc (aC hi)⟩) (λi c hc=>by
  have hi:i<ay.size:=by rw[hy.1];exact(ak.1 hc).1
  exact⟨ay[i],by simp[hi],hy.2 i c _ hc (aC hi)⟩) h 9998
theorem CD [DecidableEq U]{u:U}{ts:ah Nat}(ha:E.agg u=true)(hk:IA P (E.tid u) ts)(hsz:ts.length=E.sz u)(hlen: ∀x,(E.enc u x).length=E.sz u)(hq: ∀x y,gS ts (E.enc u x) (E.enc u y)=some (E.nu u x y)):AE P E u:=by
 have vk:∀{S:Nat->Prop} {ρ:eJ} {w:World} {x:El u} {v:Value},gz E S ρ w u x v->∃vs,v=.agg vs/\pb E S ρ w (E.enc u x) vs:=λh=>by
  unfold gz at h;rwa [if_pos ha]at h
 refine⟨λ{S ρ w x v} em h=>?_,λ{S ρ w x v} es xs hx hl Ia=>?_,λ{S ρ w x y v v'} hx hy h=>?_⟩
 ·obtain⟨vs,rfl,hr⟩:=vk h;obtain⟨fields,hu,mq,heq,hl,hf⟩:=hk;rw[show(10000:Nat)=9998+1+1 from rfl,Instr.checkKey]
  simp only[Sem.run_bind,run_underlying hu,Result.andThen_ok]
  have:=xR (P:=P) (w:=w) (cs:=vs) (n:=9998) (em:=em) fields.toList (λf hfm=>by
   obtain⟨i,hi⟩:=jg hfm;have rX:i<ts.length:=by rw[<-hl];exact(ak.1 hi).1
   obtain⟨g1,g2,g3⟩:=hf i f _ hi (az rX)
   have hv:i<vs.size:=by rw[hr.1,hlen,<-hsz];exact rX
   exact⟨g1,⟨_,g3⟩,vs[i],by rw[g2];simp[hv]⟩)
  simp only[<-Array.forIn_toList]
  simp at this⊢;simp[this]
 ·obtain⟨vs,rfl,hr⟩:=vk hx;have TI:(match P.underlying (E.tid u)with|some (.array _ _)|some (.struct _)=>true|_=>false)=true:=by
   obtain⟨fields,hu,_⟩:=hk;rw[hu]
  rw[run_findKey_eq _ TI]
  have key:∀(es:ah MapEntry) (xs:ah (El u)) (n:Nat),es.length=xs.length->(∀(i:Nat) e y,es[i]?=some e->xs[i]?=some y->gz E S ρ w u y e.key)->
   (Instr.findAsking (E.tid u) (.agg vs) es n).run P w=.ok ((na (E.nu u) xs x).bind λi=>(es[i]?).map λe=>(n+i,e.val)) w:=by
   intro es;induction es with
   |nil=>
    intro xs n hl _;have:xs=[]:=bq (by simpa using hl.symm)
    subst this;simp[Instr.findAsking,na]
   |cons e es ih=>
    intro xs n hl Ia;cases xs with
    |nil=>simp at hl
    |cons y xs=>
     obtain⟨ws,_T,hwr⟩:=vk (Ia 0 e y rfl rfl)
     have he:=JG (X:=⟨E,[],[],[],λ_ _ _=>none,0,0,λ_=>none,λ_=>none,λ_=>none⟩) rfl hk hr hwr (hq x y)
     simp only[Instr.findAsking,Sem.run_bind,_T,he,Result.andThen_ok,na]
     cases hh:E.nu u x y with
     |true=>simp
     |false=>
      simp only[gY,if_false,cond_false]
      rw[ih xs (n+1) (by simpa using hl) (λi e y he hy=>Ia (i+1) e y (by simpa using he) (by simpa using hy))]
      cases na (E.nu u) xs x with
      |none=>rfl
      |some i=>simp[fb,Nat.add_comm 1 i]
  have:=key es xs 0 hl Ia;simpa using this
 ·obtain⟨vs,rfl,hr⟩:=vk hx;obtain⟨ws,rfl,nP⟩:=vk hy;have Bm:=hq x y;rw[h]at Bm;obtain⟨g1,g2⟩:=JP (ax:=vs.toList) (ay:=ws.toList) Bm (by simpa using hr.1) (by simpa using nP.1) (λi c v hc hv=>hr.2 i c v hc (by simpa using hv)) (λi c v hc hv=>nP.2 i c v hc (by simpa using hv))
  have:vs=ws:=f_ g1;subst this;have hs:Instr.sameBits 10000 (.agg vs) (.agg vs)=true:=by
   show(vs.size==vs.size&&(vs.toList.zip vs.toList).all λ(x,y)=>Instr.sameBits 9999 x y)=true;simp only[beq_self_eq_true,dm,aP]
   rintro⟨a,b⟩ hab;have XN:a=b/\a∈vs.toList:=by
    obtain⟨i,hi⟩:=jg hab;rw[List.getElem?_zip_eq_some]at hi;obtain⟨h1,h2⟩:=hi;rw[h1]at h2;cases h2;exact⟨rfl,aD h1⟩
   obtain⟨rfl,hm⟩:=XN;exact g2 a hm 9999
  simp[Instr.keyThatStays,hs]
theorem Mb{t:TypeId}{ts:ah Nat}(h:Ij P t ts=true)(hs:(match P.underlying t with|some (.struct _)=>true|_=>false)=true):IA P t ts:=by
 rcases EH h with h|⟨n,e,i,k,hu,_⟩
 ·exact h
 ·rw[hu]at hs;cases hs
theorem qX{u:U}{c:AV U El}{x:El u}{v:Value}(ha:E.agg u=false)(he:E.enc u x=[c])(h:gz E S ρ w u x v):Rel E S ρ w c v:=by unfold gz at h;rw[if_neg (by simp[ha])]at h;obtain⟨c',h1,h2⟩:=h;rw[he]at h1;cases h1;exact h2
theorem Je{u:U}(f:El u->ah UInt8)(ha:E.agg u=false)(hd:P.underlying (E.tid u)=some .string)(he:∀x,E.enc u x=[.str (f x)])(hq:∀x y,E.nu u x y=(f x==f y)):AE P E u:=
 xE ha hd (λh=>by cases qX ha (he _) h;trivial) (λ{S ρ w x y v v'} h h'=>by
  have h1:=qX ha (he _) h;have h2:=qX ha (he _) h';cases h1;cases h2;rw[hq]
  constructor
  ·intro e;injection e with e
   injection e with e
   have:f x=f y:=by simpa using congrArg Array.toList e
   simp[this]
  ·intro e;rw[eq_of_beq e])
theorem Jf{u:U}{k:IntKind}(f:El u->Int)(ha:E.agg u=false)(hd:P.underlying (E.tid u)=some (.int k))(he:∀x,E.enc u x=[.int k (f x)])(hq:∀x y,E.nu u x y=(f x==f y)):AE P E u:=
 xE ha hd (λh=>by cases qX ha (he _) h;rfl) (λ{S ρ w x y v v'} h h'=>by
  have h1:=qX ha (he _) h;have h2:=qX ha (he _) h';cases h1;cases h2;rw[hq]
  constructor
  ·intro e;injection e with _ e
   simp[e]
  ·intro e;rw[eq_of_beq e])
theorem BA{u:U}{c:AV U El}{i:TypeInfo}{z:Value}(ha:E.agg u=false)(hi:P.info? (E.tid u)=some i)(hz:i.zero=some z)(he:E.enc u (E.iL u)=[c])(hr:∀S ρ w,Rel E S ρ w c z):PE P E u:=
 ⟨i,z,hi,hz,λS ρ w=>by
  unfold gz;rw[if_neg (by simp[ha])]
  exact⟨c,he,hr S ρ w⟩⟩
end
end Go.Proofs.YtfmamkmmohilgaaGreatDoor
namespace Go.Proofs.YtfmamkmmohilgaaGreatDoor
open IntKind
set_option linter.all false
open Go.RowKit
section
variable{U:Type}{El:U->Type}{P:Program}{X:Ctx U El}{S S0 S':Nat->Prop}{ρ ρ':eJ}{w w0 w':World} [DecidableEq U] [tD]
variable{a:Act}{st:St U El}{B:Bd}{d:Nat}{r:Fin U El}
def qH(res:ah Nat)(st:St U El):Option (Fin U El):=some (match res with|[t]=>(cC st.t t,st.h)|_=>(.bP (res.map (cC st.t)),st.h))
noncomputable def Hm (X:Ctx U El) (body:Code) (n:gb U) (nm:Norm U) (lR:ah (Nat×TypeId)) (res:ah Nat) (hs:bI U El) (args:ah (AV U El)):Option (Fin U El):=exec X body n ⟨mL args 0,hs⟩ (λst=>fz X X.nt lR X.nt st λst=>cN nm st (qH res)) (λ_ _=>none) (λst=>fz X X.nt lR X.nt st λst=>cN nm st (qH res))
noncomputable def runM (X:Ctx U El) (body:Code) (n:gb U) (nm:Norm U) (res:ah Nat) (hs:bI U El) (args:ah (AV U El)):Option (Fin U El):=exec X body n ⟨mL args 0,hs⟩ (λst=>cN nm st (qH res)) (λ_ _=>none) (λst=>cN nm st (qH res))
theorem B6:∀(l:ah (AV U El)) (m i:Nat),cC (mL l m) i=if m<=i then(l[i-m]?).getD .any else .any:=by
 intro l;induction l with
 |nil=>intro m i;simp[mL,cC]
 |cons c l ih=>
  intro m i;simp only[mL,cC]
  by_cases e:m=i
  ·subst e;simp[aG]
  ·rw[aO e,ih]
   simp only[cond]
   by_cases h1:m<=i
   ·rw[if_pos ab,if_pos h1,show i-m=(i-(m+1))+1 by omega,ic]
   ·rw[if_neg ab,if_neg h1]
theorem pW{f:FuncId}{fn:Func}{body:Code}{n:gb U}{nm:Norm U}{lR:ah (Nat×TypeId)}{res:ah Nat}{args:ah (AV U El)}{hs h:bI U El}{v:AV U El}(hX:bp P X)(hM:kZ P X)
 (hf:P.funcs[f]?=some fn) (hb:fn.body=some body) (wD:fn.ntmps=X.nt) (fJ:fn.results=(res.map (xQ X.nt lR)).toArray) (qT:args.length<=X.nt)
 (hv:Hm X body n nm lR res hs args=some (v,h)) (hF:wz X:=by rfl):lT P X.E f args hs v h:=by
 refine lT.DZ λB S ρ w vs MY hB hG hH hrel=>?_
 refine calls_of_wp hf hb ?_;have hsz:(vs++Array.replicate (fn.ntmps-vs.size) undef).size=X.nt:=by
  have:=hrel.1;simp;omega
 have h0:bK X B S w ⟨mL args 0,hs⟩ {tmps:=vs++Array.replicate (fn.ntmps-vs.size) undef,defers:=[]} w:=by
  refine⟨S,ρ,MY.symm,hsz,Fr.refl _ _,hB,λ_ h=>h,λ_ h=>.inl h,hG,λi=>?_,hH⟩
  show Rel X.E S _ w (cC (mL args 0) i) _;rw[B6]
  simp only[eS,if_true,hJ]
  cases hc:args[i]? with
  |none=>exact .any _
  |some c=>
   have hi:i<vs.size:=by rw[hrel.1];exact(ak.1 hc).1
   simp only[eL]
   rw[aH,gF hi,aC hi]
   exact hrel.2 i c _ hc (aC hi)
 have Lx:∀(X':Ctx U El) (bx:St U El) (a':Act) (w':World),X'.E=X.E->bK X' B S w bx a' w'->qH res bx=some (v,h)->∃v' S' ρ',Ending.returned (wT a'.tmps res)=.returned v'/\Fr B w w'/\(∀b,S b->S' b)/\(∀b,S' b->S b\/B.own b)/\fa X.E S' ρ' w' B h/\Rel X.E S' ρ' w' v v':=by
  rintro X' bx a' w' hE ⟨S',ρ',hi⟩ hr;have Dc:=hi.heap;have J0:=hi.tmps;rw[hE]at Dc J0;refine⟨_,S',ρ',rfl,hi.below,hi.s0,hi.s1,?_⟩
  unfold qH at hr;match res with
  |[t]=>
   simp only[bX,dw]at hr;obtain⟨rfl,rfl⟩:=hr;exact⟨Dc,J0 t⟩
  |[]=>
   simp only[bX,dw]at hr;obtain⟨rfl,rfl⟩:=hr;exact⟨Dc,.bP _ _ rfl ae⟩
  |t::u::l=>
   simp only[bX,dw]at hr;obtain⟨rfl,rfl⟩:=hr;refine⟨Dc,.bP _ _ ae λi c v hc hv=>?_⟩
   simp only[bo,aJ]at hc;obtain⟨q,hq,rfl⟩:=hc;simp only[cZ,bo,hq,eK,bX]at hv;subst hv;exact J0 q
 have Eg:∀bx a' w',bK X B S w bx a' w'->fz X X.nt lR X.nt bx (λst=>cN nm st (qH res))=some (v,h)->a'.defers=[]/\∃x,(results fn a'.tmps).run P w'=.ok x w'/\∃v' S' ρ',Ending.returned x=.returned v'/\Fr B w w'/\(∀b,S b->S' b)/\(∀b,S' b->S b\/B.own b)/\fa X.E S' ρ' w' B h/\Rel X.E S' ρ' w' v v':=by
  rintro bx a' w' ⟨S1,nM,hi⟩ hr;obtain⟨sw,KB,l1,l2,l3,l4,l5⟩:=om lR X bx a' hX hi (aY _) hr;obtain⟨He,n1,n2⟩:=mG l4 ⟨S1,nM,l5⟩ l2;exact⟨hi.defers.trans MY,_,oZ fJ hi.size l1 l3,Lx {X with nt:=X.nt+lR.length} He _ w' rfl n1 n2⟩
 exact mw (r:=(v,h)) hF hX hM body n _ _ _ _ _ _ _ Eg (λi bx a' w' hs hr=>by cases hr) Eg h0 hv
theorem pr{f:FuncId}{fn:Func}{body:Code}{n:gb U}{nm:Norm U}{res:ah Nat}{args:ah (AV U El)}{hs h:bI U El}{v:AV U El}(hX:bp P X)(hM:kZ P X)
 (hf:P.funcs[f]?=some fn) (hb:fn.body=some body) (wD:fn.ntmps=X.nt) (fJ:fn.results=(res.map ResultVar.tmp).toArray) (qT:args.length<=X.nt)
 (hv:runM X body n nm res hs args=some (v,h)) (hF:wz X:=by rfl):lT P X.E f args hs v h:=
 pW (lR:=[]) hX hM hf hb wD (by rw[zd];exact fJ) qT hv hF
def Lf(st:St U El)(ids:ah Nat)(outs:ah (Nat×Nat))(pins:ah Nat)(hc:bI U El):St U El:=
 let qq:=st.fD (tO ids outs pins)
 ⟨qq.t,py st.h hc pins outs outs++il qq.h pins⟩
theorem BX(h:bI U El)(ids:ah Nat)(j:Nat):aN (il h ids) j=if j∈ids then none else aN h j:=by
 induction ids generalizing h with
 |nil=>simp[il]
 |cons i ids ih=>
  simp only[il,ih,lz]
  by_cases e:j∈ids
  ·simp[e]
  ·by_cases e2:j=i
   ·subst e2;simp
   ·simp[e,e2]
theorem EN:∀(ids:ah Nat) (ρ:eJ) (j:Nat),j∉ids->ρ.Bq ids j=ρ j:=by
 intro ids;induction ids with
 |nil=>intro ρ j _;rfl
 |cons i ids ih=>
  intro ρ j h;simp only[bN,not_or]at h;show(ρ.del i).Bq ids j=ρ j;rw[ih _ _ h.2]
  simp[eJ.del,h.1]
theorem Ex:∀(ids:ah Nat) (st:St U El) (j:Nat) (b:qm U El),aN (st.fD ids).h j=some b->j∉ids/\∃b0,aN st.h j=some b0:=by
 intro ids;induction ids with
 |nil=>intro st j b h;exact⟨ae,b,h⟩
 |cons i ids ih=>
  intro st j b h;obtain⟨h1,b0,h2⟩:=ih (st.forget i) j b h;simp only[St.forget,nW,lz,aJ]at h2;obtain⟨b1,h3,_⟩:=h2;split at h3
  ·cases h3
  ·rename_i e;exact⟨by simp[e,h1],b1,h3⟩
theorem Inv.Te{f:FuncId}{args PC:ah (AV U El)}{vs:Array Value}{ids pins:ah Nat}{outs:ah (Nat×Nat)}{hs hc:bI U El}{v:AV U El}{k:AV U El->St U El->Option (Fin U El)}(hX:bp P X)(hi:Inv X B S0 w0 S ρ st a w)(hr:pb X.E S ρ w args vs)
 (ha:args.map (AV.nG (oQ ids dD))=PC) (Uv:args.all (AV.within ids)=true) (hh:handed st.h ids ids dD=some hs) (hm:lT P X.E f PC hs v hc) (hok:Qe hc ids outs pins v=true)
 (hk:k (v.nG (x_ outs)) (Lf st ids outs pins hc)=some r):
 Calls P f vs w λe w'=>∃v res bx S' ρ',e=.returned v/\k res bx=some r/\Inv X B S0 w0 S' ρ' bx a w'/\Rel X.E S' ρ' w' res v:=by
 subst ha;simp only[Qe,aj,decide_eq_true_eq]at hok;obtain⟨Vs,o7,pN,WC,XF,vU⟩:=hok;obtain⟨Dh,CE⟩:∃Dh:eJ,Dh=λm=>if dD<=m then(ids[m-dD]?).bind ρ else none:=⟨_,rfl⟩
 have Oa:∀j∈ids,Dh (oQ ids dD j)=ρ j:=λj hj=>by
  obtain⟨i,h1,h2⟩:=vq ids dD j hj;rw[CE,h2]
  simp[h1]
 obtain⟨Bc,xY⟩:∃Bc:Bd,Bc=⟨λk=>w.heap.size<=k\/∃id∈ids,∃l,ρ id=some l/\l.n≠0/\l.b=k,Dh,[]⟩:=⟨_,rfl⟩
 have gK:∀k,Bc.own k->B.own k:=λk xb=>by
  rw[xY]at xb;rcases xb with h|⟨id,hid,l,hl,hn,rfl⟩
  ·exact hi.hB k h
  ·obtain⟨b,hb⟩:=nY _ _ _ hh id hid;obtain⟨l',dq,iV⟩:=hi.heap.get id b hb;rw[hl]at dq;cases dq;exact(iV.lt hn).2.1
 have LA:∀k,Bc.own k->¬S k:=λk xb hS=>by
  rw[xY]at xb;rcases xb with h|⟨id,hid,l,hl,hn,rfl⟩
  ·have:=hi.heap.lt k hS;omega
  ·obtain⟨b,hb⟩:=nY _ _ _ hh id hid;obtain⟨l',dq,iV⟩:=hi.heap.get id b hb;rw[hl]at dq;cases dq;exact(iV.lt hn).2.2 hS
 have XU:fa X.E S Dh w Bc hs:=by
  refine⟨λm b hg=>?_,λm m' b b' l l' hg qQ gn hl dq hn oK=>?_,hi.heap.lt⟩
  ·obtain⟨i,id,b0,h1,rfl,h3,h4,rfl⟩:=nZ _ _ _ hh m b hg;obtain⟨l,hl,iV⟩:=hi.heap.get id b0 h3;have nV:id∈ids:=aD h1;have Lp:Dh (dD+i)=some l:=by rw[CE];simp[h1,hl]
   exact⟨l,Lp,iV.nG hX.u h4 (λj hj l' e=>by rw[Oa j hj];exact e) (λhn=>by rw[xY];exact .inr ⟨id,nV,l,hl,hn,rfl⟩) (.inr (by rw[xY];exact Lp))⟩
  ·obtain⟨i,id,b0,h1,rfl,h3,_⟩:=nZ _ _ _ hh m b hg;obtain⟨i',j6,U9,h1',rfl,XY,_⟩:=nZ _ _ _ hh m' b' qQ;have e1:ρ id=some l:=by rw[CE]at hl;simpa[h1]using hl
   have e2:ρ j6=some l':=by rw[CE]at dq;simpa[h1']using dq
   refine hi.heap.inj id j6 b0 U9 l l' h3 XY (λe=>gn ?_) e1 e2 hn oK;subst e;obtain⟨q1,q2⟩:=ak.1 h1;have:=(mS q1 Vs).1 (h1.trans h1'.symm)
   rw[this]
 have CI:pb X.E S Dh w (args.map (AV.nG (oQ ids dD))) vs:=by
  refine⟨by simpa using hr.1,λi c v hc hv=>?_⟩
  simp only[bo,aJ]at hc;obtain⟨c0,hc0,rfl⟩:=hc;exact(hr.2 i c0 v hc0 hv).nG hX.u (aP.1 Uv c0 (aD hc0)) λj hj l e=>by rw[Oa j hj];exact e
 refine(hm Bc S Dh w vs (λk xb=>by rw[xY];exact .inl xb) (λw' hf=>hi.g0 w' (hi.below.trans (hf.mono gK))) XU CI).mono ?_;rintro e w' ⟨v',S',ρ',rfl,sq,hs1,hs2,Fo,eC⟩
 have hF:=hi.fD hX (tO ids outs pins)
 obtain⟨F,VM⟩:∃F,F=tO ids outs pins:=⟨_,rfl⟩
 rw[<-VM]at hF;have LU:∀id,id∈F↔(id∈ids\/id∈outs.map (·.1))/\id∉pins:=λid=>by
  rw[VM];unfold tO
  simp only[oO,kz,cF,jO,decide_eq_false_iff_not]
 obtain⟨su,Gl⟩:∃su:eJ,su=λid=>match tc outs id with|some j=>ρ' j|none=>(ρ.Bq F) id:=⟨_,rfl⟩
 have xG:∀id∈pins,id∈ids/\tc outs id=some (oQ ids dD id)/\∃b,aN hc (oQ ids dD id)=some b/\b.tag=oQ ids dD id:=λid hid=>by
  have:=aP.1 vU id hid;simp only[aj,jO,decide_eq_true_eq]at this;obtain⟨h1,h2⟩:=this;split at h2
  ·rename_i j hj;simp only[aj]at h2;obtain⟨h3,h4⟩:=h2;obtain rfl:=al h3;split at h4
   ·rename_i t cs hb;exact⟨h1,hj,_,hb,al h4⟩
   ·rename_i t u xs hb;exact⟨h1,hj,_,hb,al h4⟩
   ·cases h4
  ·cases h2
 have QB:∀id∈ids,oQ ids dD id≠0:=λid hid=>by
  obtain⟨i,_,h2⟩:=vq ids dD id hid;rw[h2];unfold dD;omega
 have Pr:∀id∈pins,∀l,ρ' (oQ ids dD id)=some l->ρ id=some l:=λid hid l hl=>by
  obtain⟨h1,h2,b,h3,ht⟩:=xG id hid;obtain⟨l',dq,iV⟩:=Fo.get _ _ h3;rw[hl]at dq;cases dq;have iV:=iV.tagged;rw[ht]at iV;rcases iV with h|h
  ·exact absurd h (QB id h1)
  ·rw[xY]at h;rw[<-Oa id h1];exact h
 have HZ:∀id∈pins,∀l,ρ id=some l->ρ' (oQ ids dD id)=some l:=λid hid l hl=>by
  obtain⟨h1,h2,b,h3,_⟩:=xG id hid;obtain⟨l',dq,_⟩:=Fo.get _ _ h3;have:=Pr id hid l' dq;rw[hl]at this;cases this;exact dq
 have lC:∀id l,(ρ.Bq F) id=some l->su id=some l:=λid l h=>by
  have Vt:id∉F:=λhc=>by rw[q_ F ρ id (.inr hc)]at h;cases h
  rw[Gl]
  simp only;split
  ·rename_i j hj;have Fk:id∈outs.map (·.1):=eT.2 ⟨_,Ae _ _ _ hj,rfl⟩
   have hp:id∈pins:=Classical.byContradiction λhp=>Vt ((LU id).2 ⟨.inr Fk,hp⟩)
   obtain⟨h1,h2,_⟩:=xG id hp;rw[hj]at h2;cases h2;rw[EN F ρ id Vt]at h;exact HZ id hp l h
  ·exact h
 have MW:∀j∈outs.map (·.2),∀l,ρ' j=some l->su (x_ outs j)=some l:=λj hj l hl=>by
  rw[Gl]
  simp only[tU outs _ _ o7 (EL outs j hj)]
  exact hl
 have gT:∀b,S b->w'.heap[b]?=w.heap[b]?:=λb hb=>sq.block b (hi.heap.lt b hb) λh=>LA b h hb
 have nN:∀id b,aN (il (st.fD F).h pins) id=some b->id∉ids/\id∉outs.map (·.1)/\∃b0,aN st.h id=some b0:=λid b h=>by
  rw[BX]at h;split at h
  ·cases h
  ·rename_i hp;obtain⟨h1,h2⟩:=Ex F st id b h;refine⟨λhc=>h1 ((LU id).2 ⟨.inl hc,hp⟩),λhc=>h1 ((LU id).2 ⟨.inr hc,hp⟩),h2⟩
 have Cr:∀id b,aN (il (st.fD F).h pins) id=some b->aN (st.fD F).h id=some b:=λid b h=>by
  rw[BX]at h;split at h
  ·cases h
  ·exact h
 have vM:∀id b l,aN (il (st.fD F).h pins) id=some b->(ρ.Bq F) id=some l->l.n≠0->l.b<w.heap.size/\¬Bc.own l.b/\¬S' l.b:=λid b l h hl hn=>by
  obtain⟨h1,h2,b0,xW⟩:=nN id b h;obtain⟨l',dq,iV⟩:=hF.heap.get id b (Cr id b h)
  rw[hl]at dq;cases dq;have hlt:=iV.lt hn;have Vt:id∉F:=λhc=>by rw[q_ F ρ id (.inr hc)]at hl;cases hl
  have Gq:ρ id=some l:=by rw[<-EN F ρ id Vt];exact hl
  have Fj:¬Bc.own l.b:=λho=>by
   rw[xY]at ho;rcases ho with h|⟨j6,xU,l2,qx,pN,e⟩
   ·have:w.heap.size<=l.b:=h;omega
   ·obtain⟨b2,vj⟩:=nY _ _ _ hh j6 xU;exact hi.heap.inj id j6 b0 b2 l l2 xW vj (λe=>h1 (e▸xU)) Gq qx hn pN e.symm
  exact⟨hlt.1,Fj,λhs=>by rcases hs2 _ hs with h|h;exact hlt.2.2 h;exact Fj h⟩
 have new:∀id b,aN (py st.h hc pins outs outs) id=some b->∃j b0 l,(id,j)∈outs/\aN hc j=some b0/\ρ' j=some l/\su id=some l/\dt X.E S' ρ' w' Bc l b0/\dt X.E S' su w' B l b:=λid b h=>by
  obtain⟨j,b0,h1,h2,rfl⟩:=wZ outs id b h;obtain⟨l,hl,iV⟩:=Fo.get j b0 h2;have hf:=tU outs id j o7 h1;have qx:su id=some l:=by rw[Gl];simp only[hf];exact hl
  have hw:b0.within (outs.map (·.2))=true:=by
   have:=aP.1 XF _ h1;simp only[h2]at this;exact this
  refine⟨j,b0,l,h1,h2,hl,qx,iV,iV.nG hX.u hw MW (λhn=>gK _ (iV.lt hn).2.1) ?_⟩
  cases hp:pins.elem id with
  |false=>exact .inl rfl
  |true=>
   simp only[cond]
   have Oe:id∈pins:=by simpa using hp
   obtain⟨g1,g2,_⟩:=xG id Oe;rw[hf]at g2;cases g2;obtain⟨b1,B0⟩:=nY _ _ _ hh id g1;obtain⟨l1,Db,Q4⟩:=hi.heap.get id b1 B0;have:=Pr id Oe l hl;rw[Db]at this;cases this;rw[B0]
   exact Q4.tagged
 refine⟨v',_,_,S',su,rfl,hk,⟨hi.defers,hi.size,hi.below.trans (sq.mono gK),λk xb=>hi.hB k (ck sq.size xb),λb hb=>hs1 b (hi.s0 b hb),λb hb=>?_,hi.g0,λi=>?_,?_⟩,eC.nG hX.u WC MW⟩
 ·rcases hs2 b hb with h|h
  ·exact hi.s1 b h
  ·exact .inr (gK b h)
 ·show Rel X.E S' su w' (cC (st.fD (tO ids outs pins)).t i) _;rw[<-VM]
  exact(hF.tmps i).mono hs1 gT lC
 ·show fa X.E S' su w' B (py st.h hc pins outs outs++il (st.fD (tO ids outs pins)).h pins)
  rw[<-VM]
  refine⟨λid b hg=>?_,λi j b b' l l' kY lG gn oL lV hn oK=>?_,Fo.lt⟩
  ·rw[fF]at hg;split at hg
   ·rename_i b' pO;cases hg;obtain⟨_,_,l,_,_,_,h1,_,h2⟩:=new id b pO;exact⟨l,h1,h2⟩
   ·obtain⟨l,hl,iV⟩:=hF.heap.get id b (Cr id b hg)
    refine⟨l,lC id l hl,iV.mono hs1 gT lC λhn=>?_⟩
    obtain⟨c1,c2,c3⟩:=vM id b l hg hl hn;exact⟨sq.block _ c1 c2,c3⟩
  ·have kind: ∀id b l,aN (py st.h hc pins outs outs++il (st.fD F).h pins) id=some b->su id=some l->l.n≠0->(∃j b0,(id,j)∈outs/\aN hc j=some b0/\ρ' j=some l/\Bc.own l.b)\/(∃b0,aN (st.fD F).h id=some b0/\(ρ.Bq F) id=some l/\ ¬Bc.own l.b):=λid b l hg hl hn=>by
    rw[fF]at hg;split at hg
    ·rename_i b' pO;obtain⟨j,b0,l2,h1,h2,h3,h4,h5,_⟩:=new id b' pO;rw[hl]at h4;cases h4;exact .inl ⟨j,b0,h1,h2,h3,(h5.lt hn).2.1⟩
    ·obtain⟨l2,qx,_⟩:=hF.heap.get id b (Cr id b hg)
     have:=lC id l2 qx;rw[hl]at this;cases this;exact .inr ⟨b,Cr id b hg,qx,(vM id b l hg qx hn).2.1⟩
   rcases kind i b l kY oL hn with⟨j1,b1,p1,p2,p3,p4⟩|⟨b1,p1,p2,p3⟩<;>rcases kind j b' l' lG lV oK with⟨j2,b2,q1,q2,q3,q4⟩|⟨b2,q1,q2,q3⟩
   ·refine Fo.inj j1 j2 b1 b2 l l' p2 q2 (λe=>gn ?_) p3 q3 hn oK;subst e
    have QH:∀(l:ah (Nat×Nat)) (x y z:Nat),(l.map (·.2)).Nodup->(x,z)∈l->(y,z)∈l->x=y:=by
     intro l;induction l with
     |nil=>intro x y z _ h;cases h
     |cons p l ih=>
      intro x y z Ei h1 h2;simp only[dx,List.nodup_cons]at Ei;rcases bN.1 h1 with e1|h1<;>rcases bN.1 h2 with e2|h2
      ·rw[<-e1]at e2;exact(Prod.mk.inj e2).1.symm
      ·exact absurd (eT.2 ⟨_,h2,by rw[<-e1]⟩) Ei.1
      ·exact absurd (eT.2 ⟨_,h1,by rw[<-e2]⟩) Ei.1
      ·exact ih x y z Ei.2 h1 h2
    exact QH outs i j j1 pN p1 q1
   ·intro e;exact q3 (e▸p4)
   ·intro e;exact p3 (e▸q4)
   ·exact hF.heap.inj i j b1 b2 l l' p1 q1 gn p2 q2 hn oK
end
end Go.Proofs.YtfmamkmmohilgaaGreatDoor
namespace Go.Proofs.YtfmamkmmohilgaaGreatDoor
open IntKind
set_option linter.all false
open Go.RowKit
section
variable{U:Type}{El:U->Type}{P:Program}{X:Ctx U El} [DecidableEq U] [tD]
theorem iC{b:Bool}{f:(AV U El->bI U El->Option (Fin U El))->Option (Fin U El)}(h:∃oo:Option (AV U El×bI U El),∀k,f k=oo.bind λp=>k p.1 p.2):∃oo:Option (AV U El×bI U El),∀k,aU b (f k)=oo.bind λp=>k p.1 p.2:=by
 cases b
 ·exact⟨none,λ_=>rfl⟩
 ·exact h
def FZ(ids:ah Nat)(d:Nat):bI U El->Nat->ah (Nat×Nat)
 |[],_=>[]
 |(j,_)::h,n=>bif Nat.ble dD j then(ids.getD (j-dD) 0,j)::FZ ids d h n else(d*1000+n,j)::FZ ids d h (n+1)
def sY(sp:wF U El):PF U El:=λd args st k=>
 let ids:=reach st.h 40 0 (AV.HP.sU args [])
 match handed st.h ids ids dD with
 |some hs=>sp (args.map (AV.nG (oQ ids dD))) hs λv hc=>
  let outs:=FZ ids d hc 0
  let pins:=jv ids hc
  aU (args.all (AV.within ids)&&Qe hc ids outs pins v) (k (v.nG (x_ outs)) (Lf st ids outs pins hc))
 |none=>none
theorem kU{f:FuncId}{sp:wF U El}(hX:bp P X)(h:ql P X.E f sp):rj P X f (sY sp):=by
 refine⟨h.1,?_⟩
 intro B S0 w0 S ρ st a w d args vs k r hi hr hv;unfold sY at hv;simp only at hv;split at hv
 ·rename_i hs hh;obtain⟨v,hc,hm,hk⟩:=h.2 _ _ _ _ hv;obtain⟨iu,hk⟩:=aQ hk;simp only[aj]at iu;exact hi.Te hX hr rfl iu.1 hh hm iu.2 hk
 ·cases hv
def St.KZ(id:Nat)(st:St U El):St U El:=match aN st.h id with
 |some (.rows u xs)=>⟨st.t,iW st.h id (.pZ 0 u xs)⟩
 |_=>st
theorem Inv.KZ{B:Bd}{S0 S:Nat->Prop}{w0 w:World}{ρ:eJ}{st:St U El}{a:Act}(hi:Inv X B S0 w0 S ρ st a w)(id:Nat):Inv X B S0 w0 S ρ (st.KZ id) a w:=by
 unfold St.KZ;split
 ·rename_i u xs hg;have key:∀j b,aN (iW st.h id (.pZ 0 u xs)) j=some b->∃b0,aN st.h j=some b0/\∀l,dt X.E S ρ w B l b0->dt X.E S ρ w B l b:=λj b h=>by
   rw[jq]at h;by_cases e:j=id
   ·subst e;rw[if_pos rfl,hg]at h;cases h;exact⟨_,hg,λl hb=>⟨.inl rfl,hb⟩⟩
   ·rw[if_neg e]at h;exact⟨b,h,λ_ h=>h⟩
  refine⟨hi.defers,hi.size,hi.below,hi.hB,hi.s0,hi.s1,hi.g0,hi.tmps,⟨λj b h=>?_,λi j b b' l l' h1 h2=>?_,hi.heap.lt⟩⟩
  ·obtain⟨b0,h1,h2⟩:=key j b h;obtain⟨l,h3,h4⟩:=hi.heap.get j b0 h1;exact⟨l,h3,h2 l h4⟩
  ·obtain⟨b1,k1,_⟩:=key i b h1;obtain⟨b2,k2,_⟩:=key j b' h2;exact hi.heap.inj i j b1 b2 l l' k1 k2
 ·exact hi
def Le(p:Nat)(sp:wF U El):PF U El:=λd args st k=>match args[p]? with
 |some (.cf id)=>sY sp d args (st.KZ id) k
 |_=>none
theorem Ld{p:Nat}{f:FuncId}{sp:wF U El}(hX:bp P X)(h:ql P X.E f sp):rj P X f (Le p sp):=by
 refine⟨h.1,?_⟩
 intro B S0 w0 S ρ st a w d args vs k r hi hr hv;unfold Le at hv;split at hv
 ·rename_i id _;exact(kU hX h).2 (hi.KZ id) hr hv
 ·cases hv
theorem KE{E:fZ U El}:∀p∈([]:ah (FuncId×Sp U El)),gQ P E p.1 p.2:=λp h=>by cases h
theorem yj{E:fZ U El}{f:FuncId}{sp:Sp U El}{l:ah (FuncId×Sp U El)}(h:gQ P E f sp)(hl:∀p∈l,gQ P E p.1 p.2):∀p∈(f,sp)::l,gQ P E p.1 p.2:=λp hp=>by
 rcases bN.1 hp with rfl|hp
 ·exact h
 ·exact hl p hp
theorem pD{E:fZ U El}:∀p∈([]:ah (FuncId×wF U El)),wB P E p.1 p.2:=λp h=>by cases h
theorem ZQ{E:fZ U El}{f:FuncId}{sp:wF U El}{l:ah (FuncId×wF U El)}(h:wB P E f sp)(hl:∀p∈l,wB P E p.1 p.2):∀p∈(f,sp)::l,wB P E p.1 p.2:=λp hp=>by
 rcases bN.1 hp with rfl|hp
 ·exact h
 ·exact hl p hp
theorem MS:∀p∈([]:ah (FuncId×PF U El)),rj P X p.1 p.2:=λp h=>by cases h
theorem Ja{f:FuncId}{sp:PF U El}{l:ah (FuncId×PF U El)}(h:rj P X f sp)(hl:∀p∈l,rj P X p.1 p.2):∀p∈(f,sp)::l,rj P X p.1 p.2:=λp hp=>by
 rcases bN.1 hp with rfl|hp
 ·exact h
 ·exact hl p hp
theorem kK(b:Bool)(v:AV U El)(h:bI U El):∃oo:Option (AV U El×bI U El),∀k:AV U El->bI U El->Option (Fin U El),aU b (k v h)=oo.bind λp=>k p.1 p.2:=by
 cases b
 ·exact⟨none,λ_=>rfl⟩
 ·exact⟨some (v,h),λ_=>rfl⟩
def Yd(i:FuncId):AV U El->Bool
 |.fn g _ _=>Nat.beq g i
 |_=>false
def Ib(i:FuncId):ah (AV U El)->Bool
 |[]=>false
 |a::l=>bif Yd i a then true else Ib i l
def Vl(i:FuncId)(a b:Sp U El):Sp U El:=λargs k=>bif Ib i args then b args k else a args k
theorem P5{E:fZ U El}{f i:FuncId}{a b:Sp U El}(ha:gQ P E f a)(hb:gQ P E f b):gQ P E f (Vl i a b) where
 pe:=λvs=>by
  unfold Vl;cases Ib i vs
  ·exact ha.pe _
  ·exact hb.pe _
 ok:=λvs k r h=>by
  unfold Vl at h;cases e:Ib i vs
  ·rw[e]at h;exact ha.ok _ _ _ h
  ·rw[e]at h;exact hb.ok _ _ _ h
end
end Go.Proofs.YtfmamkmmohilgaaGreatDoor
namespace Go.Proofs.YtfmamkmmohilgaaGreatDoor
open IntKind
set_option linter.all false
open Go.RowKit
section
variable{U:Type}{El:U->Type}{P:Program}{X:Ctx U El}{S S0 S':Nat->Prop}{ρ ρ':eJ}{w w0 w':World} [DecidableEq U] [tD]
variable{a:Act}{st:St U El}{B:Bd}{d:Nat}{r:Fin U El}
def HA:Nat:=3000000000
def SU(T:TypeId):bI U El:=[(HA+T,.box 0 [])]
def Hz:bI U El->Option Nat
 |[(i,_)]=>bif Nat.ble HA i then some (i-HA)else none
 |_=>none
theorem NI(T:TypeId):Hz (SU T:bI U El)=some T:=by
 have h:∀p:Nat,(bif Nat.ble p (p+T)then some (p+T-p)else none)=some T:=λp=>by
  rw[kM (lI p T),Nat.add_sub_cancel_left]
  rfl
 exact h HA
def G9(P:Program)(E:fZ U El)(f:FuncId)(args:ah (AV U El))(hs:bI U El)(v:AV U El)(h:bI U El):Prop:=
 ∀(B:Bd) (S:Nat->Prop) (ρ:eJ) (w:World) (vs:Array Value),(∀k,w.heap.size<=k->B.own k)->(∀w',Fr B w w'->E.G w')->fa E S ρ w B hs->pb E S ρ w args vs->
  Calls P f vs w λe w'=>(Hz h=none/\∃v' S' ρ',e=.returned v'/\Fr B w w'/\(∀b,S b->S' b)/\(∀b,S' b->S b\/B.own b)/\fa E S' ρ' w' B h/\Rel E S' ρ' w' v v')\/(∃T l c,h=SU T/\v=.agg [.int .i64 l,.int .i64 c]/\e=.panicked (FY T l c)/\Fr B w w')
theorem G9.m{E:fZ U El}{f:FuncId}{args:ah (AV U El)}{hs h:bI U El}{v:AV U El}(hp:G9 P E f args hs v h)(hn:Hz h=none):lT P E f args hs v h:=λB S ρ w vs hB hG hH hr=>
 (hp B S ρ w vs hB hG hH hr).mono λe w' h'=>by
  rcases h' with⟨_,h'⟩|⟨T,l,c,rfl,_⟩
  ·exact h'
  ·rw[NI]at hn;cases hn
theorem lT.p{E:fZ U El}{f:FuncId}{args:ah (AV U El)}{hs h:bI U El}{v:AV U El}(hm:lT P E f args hs v h)(hn:Hz h=none):G9 P E f args hs v h:=λB S ρ w vs hB hG hH hr=>
 (hm B S ρ w vs hB hG hH hr).mono λe w' h'=>.inl ⟨hn,h'⟩
end
end Go.Proofs.YtfmamkmmohilgaaGreatDoor
namespace Go.Proofs.YtfmamkmmohilgaaGreatDoor
open IntKind
set_option linter.all false
section
variable{U:Type}{El:U->Type}{P:Program}{X:Ctx U El} [DecidableEq U] [tD]
noncomputable def dG (f:Func):Code:=(f.body).getD .skip
def cS(r:ah Nat):Norm U:=⟨[],r,[],[],[],[],[]⟩
noncomputable def ca (X:Ctx U El) (body:Code) (n:gb U) (nm:Norm U) (res ex:ah Nat) (args:ah (AV U El)):Option (Fin U El):=bif Nat.ble args.length X.nt then O4 X body n nm res ex args else none
def Yn:ah Nat->gb U->gb U
 |[],n=>n
 |i::p,n=>Yn p (bif Nat.beq i 0 then n.fst else n.snd)
def nE:Nat->bn U El:=λ_ _=>none
noncomputable def kf (X:Ctx U El) (c:Code) (n:gb U) (R:bn U El) (p:ah Nat) (K:bn U El) (E:Nat->bn U El):bn U El:=λst=>exec X (oM p c) (Yn p n) st K E R
noncomputable def nO (X:Ctx U El) (c:Code) (n:gb U) (R:bn U El) (nm:Norm U) (p:ah Nat) (E:Nat->bn U El) (m:Nat):bn U El:=iter nm (λbx K'=>exec X (oM p c) (Yn p n) bx K' E R) m
theorem cm{K:bn U El}{st:St U El}{x:Option (Fin U El)}(h:K st=x):hid K st=x:=(congrFun (cM K) st).trans h
def dU(g:ah (AV U El)->Option (AV U El)):Sp U El:=λargs k=>match g args with
 |some v=>k v []
 |none=>none
def cj(g:ah (AV U El)->Option (Bool×AV U El)):Sp U El:=λargs k=>match g args with
 |some v=>aU v.1 (k v.2 [])
 |none=>none
def ko(g:ah (AV U El)->Option (Bool×AV U El×bI U El)):Sp U El:=λargs k=>match g args with
 |some v=>aU v.1 (k v.2.1 v.2.2)
 |none=>none
theorem P9{E:fZ U El}{iH:ah (TypeId×TD U)}{zeros:ah (TypeId×Value)}{eqs:ah (TypeId×ah Nat)}{s:FuncId->Sp U El}{d:FuncId->Option (wF U El)}{fuel nt:Nat}{fg:Nat->Option (St U El->(St U El->Option (Fin U El))->Option (Fin U El))}:kZ P (⟨E,iH,zeros,eqs,s,fuel,nt,d,λ_=>none,fg⟩:Ctx U El):=λg sp h=>by cases h
theorem Wc{f:FuncId}{fn:Func}{n:gb U}{nm:Norm U}{res ex:ah Nat}{args:ah (AV U El)}{v:AV U El}{h:bI U El}(hX:bp P X)(hM:kZ P X)(kH:∀aaa w,(callFunc f aaa).run P w=.ok (.enter f aaa) w)(hf:P.funcs[f]?=some fn)(hv:ca X (dG fn) n nm res ex args=some (v,h))(h4:(h.map (·.1)).all (λi=>Nat.blt i 4)=true)
 (hb:fn.body.isSome=true) (wD:fn.ntmps=X.nt) (fJ:fn.results=(res.map ResultVar.tmp).toArray) (hex:ex.Nodup) (hF:wz X):cV P X.E f args v h:=by
 obtain⟨b,hb⟩:=g'.1 hb;have e:dG fn=b:=by unfold dG;rw[hb];rfl
 rw[e]at hv;unfold ca at hv;cases hl:Nat.ble args.length X.nt
 ·rw[hl]at hv;cases hv
 ·rw[hl]at hv;exact Dy hX hM kH hf hb wD fJ (aV hl) hex h4 hv hF
variable{f:FuncId}{fn:Func}{n:gb U}{nm:Norm U}{res:ah Nat}
theorem Wj{g:ah (AV U El)->Option (AV U El)}(hX:bp P X)(hM:kZ P X)(kH:∀aaa w,(callFunc f aaa).run P w=.ok (.enter f aaa) w)(hf:P.funcs[f]?=some fn)(hv:∀vs v,g vs=some v->ca X (dG fn) n nm res [] vs=some (v,[]))
 (hb:fn.body.isSome=true:=by kernel_rfl) (wD:fn.ntmps=X.nt:=by kernel_rfl) (fJ:fn.results=(res.map ResultVar.tmp).toArray:=by kernel_rfl) (hF:wz X:=by rfl):gQ P X.E f (dU g) where
 pe:=λvs=>by
  unfold dU;cases g vs with
  |none=>exact⟨none,λ_=>rfl⟩
  |some v=>exact⟨some (v,[]),λ_=>rfl⟩
 ok:=λvs k r h=>by
  unfold dU at h;cases e:g vs with
  |none=>rw[e]at h;cases h
  |some v=>rw[e]at h;exact⟨v,[],.inl (Wc hX hM kH hf (hv vs v e) rfl hb wD fJ .nil hF),h⟩
theorem HI{g:ah (AV U El)->Option (Bool×AV U El)}(hX:bp P X)(hM:kZ P X)(kH:∀aaa w,(callFunc f aaa).run P w=.ok (.enter f aaa) w)(hf:P.funcs[f]?=some fn)(hv:∀vs v,g vs=some v->v.1=true->ca X (dG fn) n nm res [] vs=some (v.2,[]))
 (hb:fn.body.isSome=true:=by kernel_rfl) (wD:fn.ntmps=X.nt:=by kernel_rfl) (fJ:fn.results=(res.map ResultVar.tmp).toArray:=by kernel_rfl) (hF:wz X:=by rfl):gQ P X.E f (cj g) where
 pe:=λvs=>by
  unfold cj;cases g vs with
  |none=>exact⟨none,λ_=>rfl⟩
  |some v=>exact kK _ _ _
 ok:=λvs k r h=>by
  unfold cj at h;cases e:g vs with
  |none=>rw[e]at h;cases h
  |some v=>
   rw[e]at h;obtain⟨h1,h2⟩:=aQ h;exact⟨v.2,[],.inl (Wc hX hM kH hf (hv vs v e h1) rfl hb wD fJ .nil hF),h2⟩
theorem K6{ex:ah Nat}{g:ah (AV U El)->Option (Bool×AV U El×bI U El)}(hX:bp P X)(hM:kZ P X)(kH:∀aaa w,(callFunc f aaa).run P w=.ok (.enter f aaa) w)(hf:P.funcs[f]?=some fn)(hv:∀vs v,g vs=some v->v.1=true->ca X (dG fn) n nm res ex vs=some v.2/\(v.2.2.map (·.1)).all (λi=>Nat.blt i 4)=true)
 (hb:fn.body.isSome=true:=by kernel_rfl) (wD:fn.ntmps=X.nt:=by kernel_rfl) (fJ:fn.results=(res.map ResultVar.tmp).toArray:=by kernel_rfl) (hF:wz X:=by rfl) (hex:ex.Nodup:=by decide):gQ P X.E f (ko g) where
 pe:=λvs=>by
  unfold ko;cases g vs with
  |none=>exact⟨none,λ_=>rfl⟩
  |some v=>exact kK _ _ _
 ok:=λvs k r h=>by
  unfold ko at h;cases e:g vs with
  |none=>rw[e]at h;cases h
  |some v=>
   rw[e]at h;obtain⟨h1,h2⟩:=aQ h;exact⟨v.2.1,v.2.2,.inl (Wc hX hM kH hf (hv vs v e h1).1 (hv vs v e h1).2 hb wD fJ hex hF),h2⟩
end
section
variable{U:Type}{El:U->Type} [DecidableEq U]
structure Arg (U:Type) (El:U->Type) (T:Type) where
 d:AV U El->Option T
 e:T->AV U El
 ok:∀v x,d v=some x->v=e x
def aK(k:IntKind):Arg U El Int:=⟨λv=>match v with|.int k' n=>bif k'==k then some n else none|_=>none,.int k,λv x h=>by
 cases v<;>try cases h
 rename_i k' n;have h:(bif k'==k then some n else none)=some x:=h;cases e:k'==k
 ·rw[e]at h;cases h
 ·rw[e]at h;cases h;rw[eq_of_beq e]⟩
abbrev aI:Arg U El Int:=aK .i64
def aB:Arg U El Bool:=⟨λv=>match v with|.bool b=>some b|_=>none,.bool,λv x h=>by cases v<;>cases h;rfl⟩
def aS:Arg U El (ah UInt8):=⟨λv=>match v with|.str b=>some b|_=>none,.str,λv x h=>by cases v<;>cases h;rfl⟩
def aL(u:U):Arg U El (ah (El u)):=⟨λv=>match v with|.au u' l=>(if h:u'=u then some (h▸l)else none)|_=>none,.au u,λv x h=>by
 cases v<;>try cases h
 rename_i u' l;have h:(if h:u'=u then some (h▸l)else none)=some x:=h;split at h
 ·rename_i e;subst e;cases h;rfl
 ·cases h⟩
def aM(u v:U):Arg U El (ah (El u×El v)):=⟨λa=>match a with|.sr u' v' l=>(if h:u'=u/\v'=v then some (h.1▸h.2▸l)else none)|_=>none,.sr u v,λa x h=>by
 cases a<;>try cases h
 rename_i u' v' l;have h:(if h:u'=u/\v'=v then some (h.1▸h.2▸l)else none)=some x:=h;split at h
 ·rename_i e;obtain⟨rfl,rfl⟩:=e;cases h;rfl
 ·cases h⟩
def zD:ah (AV U El)->Bool
 |[]=>true
 |.cL::_=>false
 |_::l=>zD l
omit [DecidableEq U] in
theorem I8:∀{l:ah (AV U El)},zD l=true->∀(j:Nat),l[j]?≠some .cL:=by
 intro l;induction l with
 |nil=>intro _ j h;simp at h
 |cons a l ih=>
  intro h j;cases a<;>first|cases h|(cases j with
   |zero=>intro e;cases e
   |succ j=>exact ih h j)
noncomputable def aE {P:Program} (E:fZ U El) (hE:oJ P E) (u:U):Arg U El (El u):=⟨λv=>match v with|.agg cs=>(bif zD cs then E.dec u cs else none)|_=>none,λx=>.agg (E.enc u x),λv x h=>by
 cases v<;>try cases h
 rename_i cs;have h:(bif zD cs then E.dec u cs else none)=some x:=h;cases e:zD cs
 ·rw[e]at h;cases h
 ·rw[e]at h;obtain⟨h1,h2⟩:=hE.dec u cs x h;congr 1;refine List.ext_getElem? λj=>?_
  by_cases hj:j<(E.enc u x).length
  ·obtain⟨c',h3,h4⟩:=h2 j _ (az hj)
   rw[h3,az hj]
   rcases h4 with h4|⟨h4,_⟩
   ·rw[h4]
   ·rw[h4]at h3;exact absurd h3 (I8 e j)
  ·rw[List.getElem?_eq_none (l:=cs) (by rw[h1];rw[hE.len]at hj;omega),List.getElem?_eq_none ab]⟩
section
variable{A B C D F G H I β:Type}
def dN(b:β):ah (AV U El)->Option β
 |[]=>some b
 |_=>none
def dC(a:Arg U El A)(f:A->ah (AV U El)->Option β):ah (AV U El)->Option β
 |v::l=>match a.d v with
  |some x=>f x l
  |none=>none
 |[]=>none
theorem dO{a:Arg U El A}{f:A->ah (AV U El)->Option β}{Q:ah (AV U El)->β->Prop}(h:∀x vs v,f x vs=some v->Q (a.e x::vs) v):∀vs v,dC a f vs=some v->Q vs v:=by
 intro vs v hv;cases vs with
 |nil=>cases hv
 |cons w l=>
  have hv:(match a.d w with|some x=>f x l|none=>none)=some v:=hv;cases e:a.d w with
  |none=>rw[e]at hv;cases hv
  |some x=>rw[e]at hv;rw[a.ok w x e];exact h x l v hv
abbrev A0(b:β):=dN (U:=U) (El:=El) b
abbrev A1(a:Arg U El A)(f:A->β):=dC a λx=>A0 (f x)
abbrev A2(a:Arg U El A)(b:Arg U El B)(f:A->B->β):=dC a λx=>A1 b (f x)
abbrev A3(a:Arg U El A)(b:Arg U El B)(c:Arg U El C)(f:A->B->C->β):=dC a λx=>A2 b c (f x)
abbrev A4(a:Arg U El A)(b:Arg U El B)(c:Arg U El C)(d:Arg U El D)(f:A->B->C->D->β):=dC a λx=>A3 b c d (f x)
abbrev A5(a:Arg U El A)(b:Arg U El B)(c:Arg U El C)(d:Arg U El D)(e:Arg U El F)(f:A->B->C->D->F->β):=dC a λx=>A4 b c d e (f x)
abbrev A6(a:Arg U El A)(b:Arg U El B)(c:Arg U El C)(d:Arg U El D)(e:Arg U El F)(g:Arg U El G)(f:A->B->C->D->F->G->β):=dC a λx=>A5 b c d e g (f x)
abbrev A7(a:Arg U El A)(b:Arg U El B)(c:Arg U El C)(d:Arg U El D)(e:Arg U El F)(g:Arg U El G)(i:Arg U El H)(f:A->B->C->D->F->G->H->β):=dC a λx=>A6 b c d e g i (f x)
abbrev A8(a:Arg U El A)(b:Arg U El B)(c:Arg U El C)(d:Arg U El D)(e:Arg U El F)(g:Arg U El G)(i:Arg U El H)(j:Arg U El I)(f:A->B->C->D->F->G->H->I->β):=dC a λx=>A7 b c d e g i j (f x)
variable{a:Arg U El A}{b:Arg U El B}{c:Arg U El C}{d:Arg U El D}{e:Arg U El F}{g:Arg U El G}{i:Arg U El H}{j:Arg U El I}{Q:ah (AV U El)->β->Prop}
theorem a0{x:β}(h:Q [] x):∀vs v,A0 (U:=U) (El:=El) x vs=some v->Q vs v:=λvs v hv=>by
 cases vs with
 |nil=>cases hv;exact h
 |cons _ _=>cases hv
theorem a1{f:A->β}(h:∀x,Q [a.e x] (f x)):∀vs v,A1 a f vs=some v->Q vs v:=dO λx=>a0 (Q:=λl=>Q (a.e x::l)) (h x)
theorem a2{f:A->B->β}(h:∀x y,Q [a.e x,b.e y] (f x y)):∀vs v,A2 a b f vs=some v->Q vs v:=dO λx=>a1 (Q:=λl=>Q (a.e x::l)) (h x)
theorem a3{f:A->B->C->β}(h:∀x y z,Q [a.e x,b.e y,c.e z] (f x y z)):∀vs v,A3 a b c f vs=some v->Q vs v:=dO λx=>a2 (Q:=λl=>Q (a.e x::l)) (h x)
theorem a4{f:A->B->C->D->β}(h:∀x y z w,Q [a.e x,b.e y,c.e z,d.e w] (f x y z w)):∀vs v,A4 a b c d f vs=some v->Q vs v:=dO λx=>a3 (Q:=λl=>Q (a.e x::l)) (h x)
theorem a5{f:A->B->C->D->F->β}(h:∀x y z w p,Q [a.e x,b.e y,c.e z,d.e w,e.e p] (f x y z w p)):∀vs v,A5 a b c d e f vs=some v->Q vs v:=dO λx=>a4 (Q:=λl=>Q (a.e x::l)) (h x)
theorem a6{f:A->B->C->D->F->G->β}(h:∀x y z w p q,Q [a.e x,b.e y,c.e z,d.e w,e.e p,g.e q] (f x y z w p q)):∀vs v,A6 a b c d e g f vs=some v->Q vs v:=dO λx=>a5 (Q:=λl=>Q (a.e x::l)) (h x)
theorem a7{f:A->B->C->D->F->G->H->β}(h:∀x y z w p q r,Q [a.e x,b.e y,c.e z,d.e w,e.e p,g.e q,i.e r] (f x y z w p q r)):∀vs v,A7 a b c d e g i f vs=some v->Q vs v:=dO λx=>a6 (Q:=λl=>Q (a.e x::l)) (h x)
theorem a8{f:A->B->C->D->F->G->H->I->β}(h:∀x y z w p q r s,Q [a.e x,b.e y,c.e z,d.e w,e.e p,g.e q,i.e r,j.e s] (f x y z w p q r s)):∀vs v,A8 a b c d e g i j f vs=some v->Q vs v:=dO λx=>a7 (Q:=λl=>Q (a.e x::l)) (h x)
end
inductive Kd (U:Type)
 |i (k:IntKind)
 |b
 |s
 |l (u:U)
def Kd.T(El:U->Type):Kd U->Type
 |.i _=>Int
 |.b=>Bool
 |.s=>ah UInt8
 |.l u=>ah (El u)
def Kd.e:(k:Kd U)->k.T El->AV U El
 |.i k,n=>.int k n
 |.b,x=>.bool x
 |.s,x=>.str x
 |.l u,x=>.au u x
def Kd.d:(k:Kd U)->AV U El->Option (k.T El)
 |.i k,.int k' n=>bif k'==k then some n else none
 |.b,.bool x=>some x
 |.s,.str x=>some x
 |.l u,.au u' x=>if h:u'=u then some (h▸x)else none
 |.l _,.cL=>some []
 |_,_=>none
theorem Kd.ok:∀(k:Kd U) (c:AV U El) (x:k.T El),k.d c=some x->c=k.e x\/(c=.cL/\∃u',k.e x=.au u' [])
 |.i k,c,x,h=>by
  cases c<;>try cases h
  rename_i k' n;have h:(bif k'==k then some n else none)=some x:=h;cases e:k'==k
  ·rw[e]at h;cases h
  ·rw[e]at h;cases h;rw[eq_of_beq e];exact .inl rfl
 |.b,c,x,h=>by cases c<;>first|(cases h;exact .inl rfl)|cases h
 |.s,c,x,h=>by cases c<;>first|(cases h;exact .inl rfl)|cases h
 |.l u,c,x,h=>by
  cases c with
  |cL=>cases h;exact .inr ⟨rfl,u,rfl⟩
  |au u' ys=>
   have h:(if h:u'=u then some (h▸ys)else none)=some x:=h;split at h
   ·rename_i e;subst e;cases h;exact .inl rfl
   ·cases h
  |_=>cases h
def Fn(El:U->Type):ah (Kd U)->Type->Type
 |[],β=>β
 |k::l,β=>k.T El->Fn El l β
def HL(El:U->Type):ah (Kd U)->Type
 |[]=>Unit
 |k::l=>k.T El×HL El l
def Rq{β:Type}:(l:ah (Kd U))->Fn El l β->HL El l->β
 |[],b,_=>b
 |_::l,f,v=>Rq l (f v.1) v.2
def OB:(l:ah (Kd U))->HL El l->ah (AV U El)
 |[],_=>[]
 |k::l,v=>k.e v.1::OB l v.2
def Ml{β:Type}:(l:ah (Kd U))->Fn El l β->ah (AV U El)->Option β
 |[],b,[]=>some b
 |k::l,f,c::cs=>match k.d c with
  |some x=>Ml l (f x) cs
  |none=>none
 |_,_,_=>none
theorem OC{β:Type}: ∀(l:ah (Kd U)) (f:Fn El l β) (cs:ah (AV U El)) (x:β),Ml l f cs=some x->
 ∃v:HL El l,x=Rq l f v/\cs.length=l.length/\∀(j:Nat) c,(OB l v)[j]?=some c->∃c',cs[j]?=some c'/\(c'=c\/(c'=.cL/\∃u',c=.au u' [])):=by
 intro l;induction l with
 |nil=>
  intro f cs x h;cases cs with
  |nil=>cases h;exact⟨(),rfl,rfl,λj c h=>by simp[OB]at h⟩
  |cons _ _=>cases h
 |cons k l ih=>
  intro f cs x h;cases cs with
  |nil=>cases h
  |cons c cs=>
   have h:(match k.d c with|some x=>Ml l (f x) cs|none=>none)=some x:=h;cases e:k.d c with
   |none=>rw[e]at h;cases h
   |some y=>
    rw[e]at h;obtain⟨v,h1,h2,h3⟩:=ih _ _ _ h;refine⟨(y,v),h1,by simp[h2],λj d hd=>?_⟩
    cases j with
    |zero=>
     cases hd;rcases k.ok c y e with h|⟨h,u',h'⟩
     ·exact⟨c,rfl,.inl h⟩
     ·exact⟨c,rfl,.inr ⟨h,u',h'⟩⟩
    |succ j=>exact h3 j d hd
theorem Yi{E:fZ U El}{u:U}{l:ah (Kd U)}{f:Fn El l (El u)}{cs:ah (AV U El)}{x:El u}(h:Ml l f cs=some x)(he:∀v,E.enc u (Rq l f v)=OB l v)(hs:l.length=E.sz u):
 cs.length=E.sz u/\∀(j:Nat) c,(E.enc u x)[j]?=some c->∃c',cs[j]?=some c'/\(c'=c\/(c'=.cL/\∃u',c=.au u' [])):=by
 obtain⟨v,rfl,h2,h3⟩:=OC l f cs x h;rw[he v]
 exact⟨h2.trans hs,h3⟩
def zc:AV U El->Value->Bool
 |.int k n,.int k' n'=>k==k'&&n==n'
 |.bool a,.bool b=>a==b
 |.str s,.string b=>s.isEmpty&&b.data.isEmpty
 |.au _ l,.slice _ n _=>l.isEmpty&&n==0
 |_,_=>false
omit [DecidableEq U] in
theorem PG{E:fZ U El}{c:AV U El}{v:Value}(h:zc c v=true)(S:Nat->Prop)(ρ:eJ)(w:World):Rel E S ρ w c v:=by
 unfold zc at h;split at h
 ·simp only[aj,beq_iff_eq]at h;obtain⟨rfl,rfl⟩:=h;exact .int _ _
 ·simp only[beq_iff_eq]at h;subst h;exact .bool _
 ·rename_i s b;simp only[aj,List.isEmpty_iff,Array.isEmpty_iff]at h;obtain⟨rfl,h⟩:=h;cases b;cases h;exact .str _
 ·simp only[aj,List.isEmpty_iff,beq_iff_eq]at h;obtain⟨rfl,rfl⟩:=h;exact .jy _ _ _
 ·cases h
def Vj:ah (AV U El)->ah Value->Bool
 |[],[]=>true
 |c::cs,v::vs=>zc c v&&Vj cs vs
 |_,_=>false
omit [DecidableEq U] in
theorem M4{E:fZ U El}:∀{cs:ah (AV U El)} {vs:ah Value},Vj cs vs=true->∀(j:Nat) c,cs[j]?=some c->∃v,vs[j]?=some v/\∀S ρ w,Rel E S ρ w c v:=by
 intro cs;induction cs with
 |nil=>intro vs _ j c h;simp at h
 |cons c cs ih=>
  intro vs h j d hd;cases vs with
  |nil=>cases h
  |cons v vs=>
   simp only[Vj,aj]at h;cases j with
   |zero=>cases hd;exact⟨v,rfl,PG h.1⟩
   |succ j=>exact ih h.2 j d hd
omit [DecidableEq U] in
theorem jS{P:Program}{E:fZ U El}{t:TypeId}{i:TypeInfo}{z:Value}{u:U}(hi:P.info? t=some i)(hs:i.size=E.sz u)(hb:i.bytes=E.AR u)(hz:i.zero=some z)(yq:z.cells.size=E.sz u)(he:Vj (E.enc u (E.iL u)) z.cells.toList=true):
 ∃i z,P.info? t=some i/\i.size=E.sz u/\i.bytes=E.AR u/\i.zero=some z/\z.cells.size=E.sz u/\
  ∀(j:Nat) c,(E.enc u (E.iL u))[j]?=some c->∃v,z.cells[j]?=some v/\∀S ρ w,Rel E S ρ w c v:=
 ⟨i,z,hi,hs,hb,hz,yq,λj c hj=>by
  obtain⟨v,h1,h2⟩:=M4 he j c hj;exact⟨v,by rw[<-bO];exact h1,h2⟩⟩
end
end Go.Proofs.YtfmamkmmohilgaaGreatDoor
namespace Go.Proofs.YtfmamkmmohilgaaGreatDoor
open Go.Proofs.Tryz IntKind
set_option linter.all false
set_option maxRecDepth 100000
noncomputable section
instance drw0:tD:=Yh
structure r_ where
 cn:List UInt8
 cb:Bool
 cl:Int
deriving DecidableEq
structure cT where
 rn:List UInt8
 rw:List r_
 rl:List UInt8
 rs:Int
deriving DecidableEq
structure cH where
 kx:Int
 ky:Int
deriving DecidableEq
structure Node where
 nn:List UInt8
 nk:Int
 nx:Int
 ny:Int
 ni:Int
 ng:Int
 nh:List cH
 np:Bool
 nr:Int
deriving DecidableEq
structure cJ where
 ln:List UInt8
 lf:List UInt8
 lt:List UInt8
 lk:Int
 ll:Int
 lu:Int
 ld:Int
 lc:List UInt8
 lw:Int
 lh:Int
 lv:List cH
deriving DecidableEq
structure Net where
 ct:List Node
 cD:List cJ
deriving DecidableEq
structure cK where
 sn:List UInt8
 sh:Int
 sp:Int
 sa:List cH
 sc:List cH
deriving DecidableEq
structure cO where
 fH:List Int
 gw:List Int
 dH:List Int
 ik:List Bool
deriving DecidableEq
structure pM where
 mn:List UInt8
 mu:Int
 ma:Int
 mr:Int
 ml:Int
deriving DecidableEq
structure Rec where
 ek:Int
 es:Int
 ei:List Int
 el:List UInt8
 et:Int
 em:List UInt8
 eu:Int
 ea:Int
 er:Int
 eo:Int
 ex:List UInt8
deriving DecidableEq
structure bS where
 dd:List UInt8
 dn:Int
 da:Int
deriving DecidableEq
structure Fe where
 gi:Int
 go:Int
 gp:List Int
deriving DecidableEq
structure pa where
 vg:Int
 wG:Int
deriving DecidableEq
structure Num where
 hhi:Int
 gr:Int
 hneg:Bool
deriving DecidableEq
structure Cw where
 wm:Int
 yE:Int
deriving DecidableEq
structure Ow where
 vN:Int
 yp:Int
deriving DecidableEq
structure Key where
 yn:List UInt8
 yu:Int
deriving DecidableEq
structure j9 where
 p0:Int
 p1:Int
deriving DecidableEq
structure pS where
 tn:List Node
 tk:List cJ
 ts:List cK
 tl:List cT
 tv:List Int
 tp:List Int
 tt:List Int
 to:List Bool
deriving DecidableEq
structure IB where
 zs:List cK
 zn:List Node
 zk:List cJ
 zr:List cT
 zv:List Int
 zp:List Int
 zt:List Int
 zo:List Bool
deriving DecidableEq
structure VV where
 hk:Int
 Ei:List UInt8
 μ:Int
 Xc:Int
 ι:Int
 Gp:Int
 ο:Int
 ξ:List cH
 κ:Bool
 Ps:Int
 RI:List UInt8
 sg:List UInt8
 hlt:List UInt8
 ω:Int
 ψ:Int
 φ:Int
 Γ:Int
 tR:List UInt8
 Xk:Int
 Zr:Int
 Vv:List cH
deriving DecidableEq
structure C' where
 fn:List UInt8
 fv:List Int
deriving DecidableEq
inductive U where
 |fy|eG|cP|node|link|mP|dj|state|msg|jt|xh|CA|wide|num|cw|ow|key|pair|int|str|bool|u8|ints|o9|rp|uC|M3|ud
deriving DecidableEq
def El:U->Type
 |.fy=>r_
 |.eG=>cT
 |.cP=>cH
 |.node=>Node
 |.link=>cJ
 |.mP=>Net
 |.dj=>cK
 |.state=>cO
 |.msg=>pM
 |.jt=>Rec
 |.xh=>bS
 |.CA=>Fe
 |.wide=>pa
 |.num=>Num
 |.cw=>Cw
 |.ow=>Ow
 |.key=>Key
 |.pair=>j9
 |.int=>Int
 |.str=>ah UInt8
 |.bool=>Bool
 |.u8=>UInt8
 |.ints=>ah Int
 |.o9=>ah UInt8
 |.rp=>pS
 |.uC=>IB
 |.M3=>VV
 |.ud=>C'
def zW:Key->Key->Bool:=λa b=>((a.yn==b.yn)&&((a.yu==b.yu)&&true))
def CC:Int->Int->Bool:=λa b=>(a==b)
def fh:(ah UInt8)->(ah UInt8)->Bool:=λa b=>(a==b)
abbrev kI:Kd U:=.i .i64
abbrev dK{β:Type}(l:ah (Kd U))(f:Fn El l β)(cs:ah (AV U El)):Option β:=Ml l f cs
def E:fZ U El where
 enc:=λu=>match u with
  |.fy=>λ(x:r_)=>[.str x.cn,.bool x.cb,.int .i64 x.cl]
  |.eG=>λ(x:cT)=>[.str x.rn,.au .fy x.rw,.str x.rl,.int .i64 x.rs]
  |.cP=>λ(x:cH)=>[.int .i64 x.kx,.int .i64 x.ky]
  |.node=>λ(x:Node)=>[.str x.nn,.int .i64 x.nk,.int .i64 x.nx,.int .i64 x.ny,.int .i64 x.ni,.int .i64 x.ng,.au .cP x.nh,.bool x.np,.int .i64 x.nr]
  |.link=>λ(x:cJ)=>[.str x.ln,.str x.lf,.str x.lt,.int .i64 x.lk,.int .i64 x.ll,.int .i64 x.lu,.int .i64 x.ld,.str x.lc,.int .i64 x.lw,.int .i64 x.lh,.au .cP x.lv]
  |.mP=>λ(x:Net)=>[.au .node x.ct,.au .link x.cD]
  |.dj=>λ(x:cK)=>[.str x.sn,.int .i64 x.sh,.int .i64 x.sp,.au .cP x.sa,.au .cP x.sc]
  |.state=>λ(x:cO)=>[.au .int x.fH,.au .int x.gw,.au .int x.dH,.au .bool x.ik]
  |.msg=>λ(x:pM)=>[.str x.mn,.int .i64 x.mu,.int .i64 x.ma,.int .i64 x.mr,.int .i64 x.ml]
  |.jt=>λ(x:Rec)=>[.int .i64 x.ek,.int .i64 x.es,.au .int x.ei,.str x.el,.int .i64 x.et,.str x.em,.int .i64 x.eu,.int .i64 x.ea,.int .i64 x.er,.int .i64 x.eo,.str x.ex]
  |.xh=>λ(x:bS)=>[.au .u8 x.dd,.int .i64 x.dn,.int .i64 x.da]
  |.CA=>λ(x:Fe)=>[.int .i64 x.gi,.int .i64 x.go,.au .int x.gp]
  |.wide=>λ(x:pa)=>[.int .i64 x.vg,.int .i64 x.wG]
  |.num=>λ(x:Num)=>[.int .u64 x.hhi,.int .u64 x.gr,.bool x.hneg]
  |.cw=>λ(x:Cw)=>[.int .u64 x.wm,.int .u64 x.yE]
  |.ow=>λ(x:Ow)=>[.int .u64 x.vN,.int .u64 x.yp]
  |.key=>λ(x:Key)=>[.str x.yn,.int .i64 x.yu]
  |.pair=>λ(x:j9)=>[.int .i64 x.p0,.int .i64 x.p1]
  |.int=>λ(x:Int)=>[.int .i64 x]
  |.str=>λ(x:ah UInt8)=>[.str x]
  |.bool=>λ(x:Bool)=>[.bool x]
  |.u8=>λ(x:UInt8)=>[.int .u8 (Int.ofNat x.toNat)]
  |.ints=>λ(x:ah Int)=>[.au .int x]
  |.o9=>λ(x:ah UInt8)=>[.au .u8 x]
  |.rp=>λ(x:pS)=>[.au .node x.tn,.au .link x.tk,.au .dj x.ts,.au .eG x.tl,.au .int x.tv,.au .int x.tp,.au .int x.tt,.au .bool x.to]
  |.uC=>λ(x:IB)=>[.au .dj x.zs,.au .node x.zn,.au .link x.zk,.au .eG x.zr,.au .int x.zv,.au .int x.zp,.au .int x.zt,.au .bool x.zo]
  |.M3=>λ(x:VV)=>[.int .i64 x.hk,.str x.Ei,.int .i64 x.μ,.int .i64 x.Xc,.int .i64 x.ι,.int .i64 x.Gp,.int .i64 x.ο,.au .cP x.ξ,.bool x.κ,.int .i64 x.Ps,.str x.RI,.str x.sg,.str x.hlt,.int .i64 x.ω,.int .i64 x.ψ,.int .i64 x.φ,.int .i64 x.Γ,.str x.tR,.int .i64 x.Xk,.int .i64 x.Zr,.au .cP x.Vv]
  |.ud=>λ(x:C')=>[.str x.fn,.au .int x.fv]
 dec:=λu cs=>match u with
  |.fy=>dK [.s,.b,kI] r_.mk cs
  |.eG=>dK [.s,.l .fy,.s,kI] cT.mk cs
  |.cP=>dK [kI,kI] cH.mk cs
  |.node=>dK [.s,kI,kI,kI,kI,kI,.l .cP,.b,kI] Node.mk cs
  |.link=>dK [.s,.s,.s,kI,kI,kI,kI,.s,kI,kI,.l .cP] cJ.mk cs
  |.mP=>dK [.l .node,.l .link] Net.mk cs
  |.dj=>dK [.s,kI,kI,.l .cP,.l .cP] cK.mk cs
  |.state=>dK [.l .int,.l .int,.l .int,.l .bool] cO.mk cs
  |.msg=>dK [.s,kI,kI,kI,kI] pM.mk cs
  |.jt=>dK [kI,kI,.l .int,.s,kI,.s,kI,kI,kI,kI,.s] Rec.mk cs
  |.xh=>dK [.l .u8,kI,kI] bS.mk cs
  |.CA=>dK [kI,kI,.l .int] Fe.mk cs
  |.wide=>dK [kI,kI] pa.mk cs
  |.num=>dK [.i .u64,.i .u64,.b] Num.mk cs
  |.cw=>dK [.i .u64,.i .u64] Cw.mk cs
  |.ow=>dK [.i .u64,.i .u64] Ow.mk cs
  |.key=>dK [.s,kI] Key.mk cs
  |.pair=>dK [kI,kI] j9.mk cs
  |.int=>dK [kI] (λ(x:Int)=>x) cs
  |.str=>dK [.s] (λ(x:ah UInt8)=>x) cs
  |.bool=>dK [.b] (λ(x:Bool)=>x) cs
  |.u8=>none
  |.ints=>dK [.l .int] (λ(x:ah Int)=>x) cs
  |.o9=>dK [.l .u8] (λ(x:ah UInt8)=>x) cs
  |.rp=>dK [.l .node,.l .link,.l .dj,.l .eG,.l .int,.l .int,.l .int,.l .bool] pS.mk cs
  |.uC=>dK [.l .dj,.l .node,.l .link,.l .eG,.l .int,.l .int,.l .int,.l .bool] IB.mk cs
  |.M3=>dK [kI,.s,kI,kI,kI,kI,kI,.l .cP,.b,kI,.s,.s,.s,kI,kI,kI,kI,.s,kI,kI,.l .cP] VV.mk cs
  |.ud=>dK [.s,.l .int] C'.mk cs
 iL:=λu=>match u with
  |.fy=>(⟨[],false,0⟩:r_)
  |.eG=>(⟨[],[],[],0⟩:cT)
  |.cP=>(⟨0,0⟩:cH)
  |.node=>(⟨[],0,0,0,0,0,[],false,0⟩:Node)
  |.link=>(⟨[],[],[],0,0,0,0,[],0,0,[]⟩:cJ)
  |.mP=>(⟨[],[]⟩:Net)
  |.dj=>(⟨[],0,0,[],[]⟩:cK)
  |.state=>(⟨[],[],[],[]⟩:cO)
  |.msg=>(⟨[],0,0,0,0⟩:pM)
  |.jt=>(⟨0,0,[],[],0,[],0,0,0,0,[]⟩:Rec)
  |.xh=>(⟨[],0,0⟩:bS)
  |.CA=>(⟨0,0,[]⟩:Fe)
  |.wide=>(⟨0,0⟩:pa)
  |.num=>(⟨0,0,false⟩:Num)
  |.cw=>(⟨0,0⟩:Cw)
  |.ow=>(⟨0,0⟩:Ow)
  |.key=>(⟨[],0⟩:Key)
  |.pair=>(⟨0,0⟩:j9)
  |.int=>(0:Int)
  |.str=>([]:ah UInt8)
  |.bool=>(false:Bool)
  |.u8=>(0:UInt8)
  |.ints=>([]:ah Int)
  |.o9=>([]:ah UInt8)
  |.rp=>(⟨[],[],[],[],[],[],[],[]⟩:pS)
  |.uC=>(⟨[],[],[],[],[],[],[],[]⟩:IB)
  |.M3=>(⟨0,[],0,0,0,0,0,[],false,0,[],[],[],0,0,0,0,[],0,0,[]⟩:VV)
  |.ud=>(⟨[],[]⟩:C')
 sz:=λu=>match u with|.fy=>3|.eG=>4|.cP=>2|.node=>9|.link=>11|.mP=>2|.dj=>5|.state=>4|.msg=>5|.jt=>11|.xh=>3|.CA=>3|.wide=>2|.num=>3|.cw=>2|.ow=>2|.key=>2|.pair=>2|.int=>1|.str=>1|.bool=>1|.u8=>1|.ints=>1|.o9=>1|.rp=>8|.uC=>8|.M3=>21|.ud=>2
 AR:=λu=>match u with|.fy=>32|.eG=>64|.cP=>16|.node=>96|.link=>136|.mP=>48|.dj=>80|.state=>96|.msg=>48|.jt=>128|.xh=>40|.CA=>40|.wide=>16|.num=>24|.cw=>16|.ow=>16|.key=>24|.pair=>16|.int=>8|.str=>16|.bool=>1|.u8=>1|.ints=>24|.o9=>24|.rp=>192|.uC=>192|.M3=>240|.ud=>40
 tid:=λu=>match u with|.fy=>223|.eG=>149|.cP=>218|.node=>135|.link=>139|.mP=>25|.dj=>144|.state=>31|.msg=>40|.jt=>42|.xh=>49|.CA=>92|.wide=>288|.num=>353|.cw=>364|.ow=>523|.key=>249|.pair=>242|.int=>3|.str=>9|.bool=>4|.u8=>5|.ints=>28|.o9=>47|.rp=>33|.uC=>117|.M3=>305|.ud=>153
 agg:=λu=>match u with|.fy=>true|.eG=>true|.cP=>true|.node=>true|.link=>true|.mP=>true|.dj=>true|.state=>true|.msg=>true|.jt=>true|.xh=>true|.CA=>true|.wide=>true|.num=>true|.cw=>true|.ow=>true|.key=>true|.pair=>true|.int=>false|.str=>false|.bool=>false|.u8=>false|.ints=>false|.o9=>false|.rp=>true|.uC=>true|.M3=>true|.ud=>true
 fl:=λu=>match u with|.eG=>false|.node=>false|.link=>false|.mP=>false|.dj=>false|.state=>false|.jt=>false|.xh=>false|.CA=>false|.ints=>false|.o9=>false|.rp=>false|.uC=>false|.M3=>false|.ud=>false|_=>true
 G:=λw=>Lib.TabIs prog w "internal/strconv.uint64pow10" .u64 Lib.pow10Tab/\ ∃m:Int,w.cell? ⟨2,0,none⟩=some (.int .i64 m)
 nu:=λu=>match u with|.key=>zW|.int=>CC|.str=>fh|_=>λ_ _=>false
 N3:=λu=>match u with|.key=>true|.int=>true|.str=>true|_=>false
 PJ:=λu=>match u with|.int=>true|.bool=>true|_=>false
 Av:=λu=>match u with|.u8=>true|_=>false
 Pc:=λu=>match u with|.u8=>λs=>s|_=>λ_=>[]
 PK:=λu=>match u with|.u8=>λ(s:ah UInt8)=>s|_=>λ_=>[]
theorem U6:MN E .u8 (λs=>s) (λs=>s) where
 sz:=rfl
 AR:=rfl
 len:=λ_=>rfl
 enc:=λs i h=>⟨s[i],az h,by simp[E,List.getD,az h]⟩
 Ts:=λ_=>rfl
 UT:=λxs i y h=>⟨y,h,rfl⟩
theorem ve:oJ prog E where
 len:=λu x=>by cases u<;>first|rfl|(cases x<;>rfl)
 pos:=λu=>by cases u<;>decide
 Rn:=λu=>by cases u<;>decide
 cell:=λu x c hc=>aP.1 (show(E.enc u x).all AV.cell=true by cases u<;>first|rfl|(cases x<;>rfl)) c hc
 flat:=λu hu x c hc=>aP.1 (show(E.enc u x).all AV.flat=true by cases u<;>first|rfl|cases hu) c hc
 Q7:=λw w' h hb=>⟨IL h.1 hb,by obtain⟨m,hm⟩:=h.2;exact⟨m,(hb.cell (p:=⟨2,0,none⟩) (World.block_lt_of_cell? w ⟨2,0,none⟩ hm)).trans hm⟩⟩
 key:=λu h=>by
  cases u<;>try cases h
  ·exact CD (ts:=[2,0]) rfl (Mb aa aa) rfl (λ_=>rfl) (λx y=>by simp[E,gS,zW])
  ·exact Jf (λx=>x) rfl aa (λ_=>rfl) (λ_ _=>rfl)
  ·exact Je (λx=>x) rfl aa (λ_=>rfl) (λ_ _=>rfl)
 val:=λu h=>by
  cases u<;>try cases h
  ·exact BA rfl type3 rfl rfl (λ_ _ _=>.int _ _)
  ·exact BA rfl type4 rfl rfl (λ_ _ _=>.bool _)
 dec:=λu cs x h=>by
  cases u<;>first|cases h|exact Yi h (λ_=>rfl) rfl
 RW:=λu h=>by cases u<;>first|exact⟨U6,rfl⟩|exact absurd h Bool.false_ne_true
 info:=λu=>by
  cases u
  ·exact jS type223 rfl rfl rfl rfl rfl
  ·exact jS type149 rfl rfl rfl rfl rfl
  ·exact jS type218 rfl rfl rfl rfl rfl
  ·exact jS type135 rfl rfl rfl rfl rfl
  ·exact jS type139 rfl rfl rfl rfl rfl
  ·exact jS type25 rfl rfl rfl rfl rfl
  ·exact jS type144 rfl rfl rfl rfl rfl
  ·exact jS type31 rfl rfl rfl rfl rfl
  ·exact jS type40 rfl rfl rfl rfl rfl
  ·exact jS type42 rfl rfl rfl rfl rfl
  ·exact jS type49 rfl rfl rfl rfl rfl
  ·exact jS type92 rfl rfl rfl rfl rfl
  ·exact jS type288 rfl rfl rfl rfl rfl
  ·exact jS type353 rfl rfl rfl rfl rfl
  ·exact jS type364 rfl rfl rfl rfl rfl
  ·exact jS type523 rfl rfl rfl rfl rfl
  ·exact jS type249 rfl rfl rfl rfl rfl
  ·exact jS type242 rfl rfl rfl rfl rfl
  ·exact jS type3 rfl rfl rfl rfl rfl
  ·exact jS type9 rfl rfl rfl rfl rfl
  ·exact jS type4 rfl rfl rfl rfl rfl
  ·exact N6 type5 rfl rfl rfl rfl rfl
  ·exact jS type28 rfl rfl rfl rfl rfl
  ·exact jS type47 rfl rfl rfl rfl rfl
  ·exact jS type33 rfl rfl rfl rfl rfl
  ·exact jS type117 rfl rfl rfl rfl rfl
  ·exact jS type305 rfl rfl rfl rfl rfl
  ·exact jS type153 rfl rfl rfl rfl rfl
def Aq:r_:=(⟨[],false,0⟩:r_)
def gJ:cT:=(⟨[],[],[],0⟩:cT)
def cE:cH:=(⟨0,0⟩:cH)
def fU:Node:=(⟨[],0,0,0,0,0,[],false,0⟩:Node)
def dz:cJ:=(⟨[],[],[],0,0,0,0,[],0,0,[]⟩:cJ)
def oU:cK:=(⟨[],0,0,[],[]⟩:cK)
def wk:cO:=(⟨[],[],[],[]⟩:cO)
def ER:pM:=(⟨[],0,0,0,0⟩:pM)
def dh:Rec:=(⟨0,0,[],[],0,[],0,0,0,0,[]⟩:Rec)
def fi:j9:=(⟨0,0⟩:j9)
def bF:Int:=0
def jz:Bool:=false
def UY:UInt8:=0
def GM:ah Int:=[]
def u6:ah UInt8:=[]
abbrev R:=Option (Fin U El)
def iH:ah (TypeId×TD U):=[(3,.int .i64),(4,.bool),(5,.int .u8),(9,.str),(22,.slice .node),(23,.slice .link),(25,.struct [(0,1,false),(1,1,false)] 2),(26,.slice .dj),(27,.slice .eG),(28,.slice .int),(29,.slice .bool),(31,.struct [(0,1,false),(1,1,false),(2,1,false),(3,1,false)] 4),(33,.struct [(0,2,true),(2,1,false),(3,1,false),(4,4,true)] 8),(34,.slice .jt),(35,.int .u16),(40,.struct [(0,1,false),(1,1,false),(2,1,false),(3,1,false),(4,1,false)] 5),(42,.struct [(0,1,false),(1,1,false),(2,1,false),(3,1,false),(4,1,false),(5,5,true),(10,1,false)] 11),(43,.one),(44,.slice .state),(47,.slice .u8),(49,.struct [(0,1,false),(1,1,false),(2,1,false)] 3),(50,.int .i64),(59,.one),(63,.one),(65,.ptr),(69,.struct [(0,1,false),(1,1,false),(2,1,false)] 3),(72,.ptr),(76,.slice .str),(86,.one),(92,.struct [(0,1,false),(1,1,false),(2,1,false)] 3),(101,.slice .o9),(110,.map .key .bool),(111,.slice .msg),(113,.struct [(0,1,false),(1,1,false),(2,1,false),(3,1,false),(4,1,false),(5,1,false)] 6),(117,.struct [(0,1,false),(1,2,true),(3,1,false),(4,4,true)] 8),(118,.slice .uC),(120,.struct [(0,8,true),(8,1,false),(9,1,false)] 10),(131,.struct [(0,1,false),(1,1,false)] 2),(133,.slice .cP),(135,.struct [(0,1,false),(1,1,false),(2,2,true),(4,1,false),(5,1,false),(6,1,false),(7,1,false),(8,1,false)] 9),(136,.one),(139,.struct [(0,1,false),(1,1,false),(2,1,false),(3,1,false),(4,1,false),(5,1,false),(6,1,false),(7,1,false),(8,1,false),(9,1,false),(10,1,false)] 11),(140,.one),(141,.slice .ud),(144,.struct [(0,1,false),(1,1,false),(2,1,false),(3,1,false),(4,1,false)] 5),(145,.one),(147,.slice .fy),(149,.struct [(0,1,false),(1,1,false),(2,1,false),(3,1,false)] 4),(150,.one),(153,.struct [(0,1,false),(1,1,false)] 2),(154,.one),(157,.one),(165,.ptr),(167,.struct [(0,1,false),(1,1,false)] 2),(174,.map .str .bool),(177,.int .u64),(185,.one),(187,.one),(191,.struct [(0,1,false),(1,1,false)] 2),(195,.one),(200,.ptr),(202,.struct [(0,1,false),(1,1,false)] 2),(218,.struct [(0,1,false),(1,1,false)] 2),(223,.struct [(0,1,false),(1,1,false),(2,1,false)] 3),(225,.one),(226,.map .str .int),(227,.map .int .bool),(238,.slice .ints),(239,.slice .pair),(242,.arr 2 1 false 2),(243,.int .u64),(249,.struct [(0,1,false),(1,1,false)] 2),(256,.one),(261,.int .u32),(274,.iface),(288,.struct [(0,1,false),(1,1,false)] 2),(297,.slice .M3),(299,.struct [(0,1,false),(1,1,false)] 2),(305,.struct [(0,1,false),(1,9,true),(10,11,true)] 21),(318,.one),(353,.struct [(0,1,false),(1,1,false),(2,1,false)] 3),(364,.struct [(0,1,false),(1,1,false)] 2),(461,.ptr),(463,.struct [(0,1,false),(1,1,false)] 2),(523,.struct [(0,1,false),(1,1,false)] 2),(538,.one)]
def zeros:ah (TypeId×Value):=[(9,(t9.zero).getD (.int .i64 0)),(25,(t25.zero).getD (.int .i64 0)),(31,(t31.zero).getD (.int .i64 0)),(40,(t40.zero).getD (.int .i64 0)),(42,(t42.zero).getD (.int .i64 0)),(49,(t49.zero).getD (.int .i64 0)),(69,(t69.zero).getD (.int .i64 0)),(92,(t92.zero).getD (.int .i64 0)),(113,(t113.zero).getD (.int .i64 0)),(117,(t117.zero).getD (.int .i64 0)),(120,(t120.zero).getD (.int .i64 0)),(135,(t135.zero).getD (.int .i64 0)),(139,(t139.zero).getD (.int .i64 0)),(144,(t144.zero).getD (.int .i64 0)),(149,(t149.zero).getD (.int .i64 0)),(167,(t167.zero).getD (.int .i64 0)),(191,(t191.zero).getD (.int .i64 0)),(202,(t202.zero).getD (.int .i64 0)),(218,(t218.zero).getD (.int .i64 0)),(223,(t223.zero).getD (.int .i64 0)),(242,(t242.zero).getD (.int .i64 0)),(249,(t249.zero).getD (.int .i64 0)),(288,(t288.zero).getD (.int .i64 0)),(299,(t299.zero).getD (.int .i64 0)),(305,(t305.zero).getD (.int .i64 0)),(353,(t353.zero).getD (.int .i64 0)),(364,(t364.zero).getD (.int .i64 0)),(463,(t463.zero).getD (.int .i64 0)),(523,(t523.zero).getD (.int .i64 0))]
def eqs:ah (TypeId×ah Nat):=[(40,[2,0,0,0,0]),(218,[0,0])]
theorem lq:Iy prog E iH zeros eqs:=O1 aa ve aa (by
 intro p hp;simp only[zeros,bN,lK,or_false]at hp;rcases hp with rfl|rfl|rfl|rfl|rfl|rfl|rfl|rfl|rfl|rfl|rfl|rfl|rfl|rfl|rfl|rfl|rfl|rfl|rfl|rfl|rfl|rfl|rfl|rfl|rfl|rfl|rfl|rfl|rfl
 ·exact⟨t9,type9,rfl⟩
 ·exact⟨t25,type25,rfl⟩
 ·exact⟨t31,type31,rfl⟩
 ·exact⟨t40,type40,rfl⟩
 ·exact⟨t42,type42,rfl⟩
 ·exact⟨t49,type49,rfl⟩
 ·exact⟨t69,type69,rfl⟩
 ·exact⟨t92,type92,rfl⟩
 ·exact⟨t113,type113,rfl⟩
 ·exact⟨t117,type117,rfl⟩
 ·exact⟨t120,type120,rfl⟩
 ·exact⟨t135,type135,rfl⟩
 ·exact⟨t139,type139,rfl⟩
 ·exact⟨t144,type144,rfl⟩
 ·exact⟨t149,type149,rfl⟩
 ·exact⟨t167,type167,rfl⟩
 ·exact⟨t191,type191,rfl⟩
 ·exact⟨t202,type202,rfl⟩
 ·exact⟨t218,type218,rfl⟩
 ·exact⟨t223,type223,rfl⟩
 ·exact⟨t242,type242,rfl⟩
 ·exact⟨t249,type249,rfl⟩
 ·exact⟨t288,type288,rfl⟩
 ·exact⟨t299,type299,rfl⟩
 ·exact⟨t305,type305,rfl⟩
 ·exact⟨t353,type353,rfl⟩
 ·exact⟨t364,type364,rfl⟩
 ·exact⟨t463,type463,rfl⟩
 ·exact⟨t523,type523,rfl⟩) aa
structure Ct where
 f:FuncId
 s:Sp U El
 ok:gQ prog E f s
def dp(l:ah Ct)(n:Nat):Ctx U El:=⟨E,iH,zeros,eqs,lr (l.map λc=>(c.f,c.s)),100000,n,js [],λ_=>none,λ_=>none⟩
theorem ss(l:ah Ct):∀p∈l.map (λc=>(c.f,c.s)),gQ prog E p.1 p.2:=λp hp=>by
 obtain⟨c,_,rfl⟩:=eT.1 hp;exact c.ok
abbrev aR(u:U):Arg U El (El u):=aE E ve u
abbrev bL(u:U):Arg U El (ah (El u)):=aL u
abbrev bM(u v:U):Arg U El (ah (El u×El v)):=aM u v
abbrev eA(u:U)(x:El u):AV U El:=.agg (E.enc u x)
abbrev OK(f:FuncId)(s:Sp U El):Prop:=gQ prog E f s
section
variable{n:gb U}{nm:Norm U}{res ex:ah Nat}{f:FuncId}{fn:Func}{l:ah Ct}{k:Nat}(hc:∀vs w,(callFunc f vs).run prog w=.ok (.enter f vs) w)(hf:prog.funcs[f]?=some fn)
include hc hf
theorem oS{g:ah (AV U El)->Option (AV U El)}(hv:∀vs v,g vs=some v->ca (dp l k) (dG fn) n nm res [] vs=some (v,[]))(hb:fn.body.isSome=true:=by kernel_rfl)(wD:fn.ntmps=k:=by kernel_rfl)(fJ:fn.results=(res.map ResultVar.tmp).toArray:=by kernel_rfl):OK f (dU g):=Wj (X:=dp l k) (fV lq (ss _) pD) P9 hc hf hv hb wD fJ rfl
theorem ir{g:ah (AV U El)->Option (Bool×AV U El)}(hv:∀vs v,g vs=some v->v.1=true->ca (dp l k) (dG fn) n nm res [] vs=some (v.2,[]))(hb:fn.body.isSome=true:=by kernel_rfl)(wD:fn.ntmps=k:=by kernel_rfl)(fJ:fn.results=(res.map ResultVar.tmp).toArray:=by kernel_rfl):OK f (cj g):=HI (X:=dp l k) (fV lq (ss _) pD) P9 hc hf hv hb wD fJ rfl
theorem zw{g:ah (AV U El)->Option (Bool×AV U El×bI U El)}(hv:∀vs v,g vs=some v->v.1=true->ca (dp l k) (dG fn) n nm res ex vs=some v.2/\(v.2.2.map (·.1)).all (λi=>Nat.blt i 4)=true)(hb:fn.body.isSome=true:=by kernel_rfl)(wD:fn.ntmps=k:=by kernel_rfl)(fJ:fn.results=(res.map ResultVar.tmp).toArray:=by kernel_rfl)(hex:ex.Nodup:=by decide):OK f (ko g):=K6 (X:=dp l k) (fV lq (ss _) pD) P9 hc hf hv hb wD fJ rfl hex
end
end
end Go.Proofs.YtfmamkmmohilgaaGreatDoor
namespace Go.Proofs.YtfmamkmmohilgaaGreatDoor
open IntKind
set_option linter.all false
noncomputable section
theorem jD{x:Int}(h1: -9223372036854775808<=x)(h2:x<=9223372036854775807):i64.wrap x=x:=IntWalk.i64_in _ ⟨h1,h2⟩
theorem bQ{α:Type}{l:ah α}{i:Nat}(h:i<l.length)(d:α):List.getD l i d=l[i]:=by simp[List.getD,az h]
theorem toNat_nat(n:Nat):Int.toNat (n:Int)=n:=rfl
theorem c9{i n:Nat}(h:i<n):dV (i:Int) n=true:=by simp only[dV,bg,bz,aj,decide_eq_true_eq];omega
theorem Gk{n:Nat}(h:0<n):dV (0:Int) n=true:=c9 (i:=0) h
theorem eh{a b:Int}(h:a<b):bz a b=true:=decide_eq_true h
theorem dF{a b:Int}(h:¬a<b):bz a b=false:=decide_eq_false h
theorem iI{a b:Int}(h:a<=b):bg a b=true:=decide_eq_true h
theorem Ji{a b:Int}(h:¬a<=b):bg a b=false:=decide_eq_false h
theorem c_{a b:Nat}(h:a<=b):bU a b=true:=decide_eq_true h
theorem pw{a b:Nat}(h:a<b):lU a b=true:=decide_eq_true h
theorem S_{a b:Nat}(h:¬a<b):lU a b=false:=decide_eq_false h
theorem ja{a b:Int}(h:bg a b=true):a<=b:=of_decide_eq_true h
theorem N7{a b:Int}(h:bz a b=true):a<b:=of_decide_eq_true h
theorem Wt{a b:Int}(h:bg a b=false):¬a<=b:=of_decide_eq_false h
theorem oD{a b:Int}(h:bz a b=false):¬a<b:=of_decide_eq_false h
theorem ia{a b:Nat}(h:bU a b=true):a<=b:=of_decide_eq_true h
theorem fK{α:Type}{l:ah α}{i:Nat}(h:i<l.length):l.drop i=l[i]::l.drop (i+1):=List.drop_eq_getElem_cons h
theorem yg{α:Type}{l:ah α}{i:Nat}(h:i<l.length):l.take (i+1)=l.take i++[l[i]]:=by rw[List.take_add_one,az h];rfl
theorem eY(i:Nat)(h:i<=1000000):i64.wrap ((i:Int)+1)=((i+1:Nat):Int):=by rw[jD ab ab];omega
theorem vm(m:Nat)(h0:1<=m)(h:m<=1000000):i64.wrap ((m:Int)-1)=((m-1:Nat):Int):=by rw[jD ab ab];omega
theorem gU{R:Type}(f:Bool->R)(a b:Bool):ai a (f b) (f false)=f (a&&b):=by cases a<;>rfl
theorem PA{R:Type}(f:Bool->R)(a b:Bool):ai a (f true) (f b)=f (a||b):=by cases a<;>rfl
theorem eZ{R:Type}(x:Option R):aU true x=x:=rfl
theorem ee{R:Type}(x y:R):ai true x y=x:=rfl
theorem gy{R:Type}(x y:R):ai false x y=y:=rfl
def Gt{σ α R:Type}(body:σ->Nat->α->(σ->R)->R)(fin:σ->R):σ->Nat->ah α->R
 |s,_,[]=>fin s
 |s,i,x::l=>body s i x λs'=>Gt body fin s' (i+1) l
theorem jr{σ α R:Type}(l:ah α)(hl:l.length<=1000000)(fn:Nat->σ->Int->R)(body:σ->Nat->α->(σ->R)->R)(fin:σ->R)
 (uv:∀(n:Nat) (s:σ) (i:Nat) (hi:i<l.length),fn (n+1) s (i:Int)=body s i l[i] (λs'=>fn n s' (i64.wrap ((i:Int)+1)))) (Xx:∀(n:Nat) (s:σ),fn (n+1) s (l.length:Int)=fin s):
 ∀(n i:Nat) (s:σ),l.length<n+i->i<=l.length->fn n s (i:Int)=Gt body fin s i (l.drop i):=by
 intro n;induction n with
 |zero=>intro i s h1 h2;omega
 |succ n ih=>
  intro i s h1 h2;by_cases hi:i<l.length
  ·rw[uv n s i hi,fK hi,eY i ab]
   simp only[Gt]
   congr 1;funext s';exact ih (i+1) s' ab hi
  ·have:i=l.length:=ab
   subst this;rw[Xx,bH]
   rfl
def dM{α:Type}(p:α->Bool):Nat->ah α->Int
 |_,[]=> -1
 |i,x::l=>bif p x then(i:Int)else dM p (i+1) l
theorem qV{α R:Type}(p:α->Bool)(f:Int->R):∀(l:ah α) (i:Nat),Gt (σ:=Unit) (λ_ i x k=>ai (p x) (f (i:Int)) (k ())) (λ_=>f (-1)) () i l=f (dM p i l):=by
 intro l;induction l with
 |nil=>intro i;rfl
 |cons x l ih=>
  intro i;simp only[Gt,dM]
  cases p x
  ·exact ih (i+1)
  ·rfl
theorem xf{α:Type}(p:α->Bool):∀(l:ah α) (i:Nat),bg 0 (dM p i l)=l.any p:=by
 intro l;induction l with
 |nil=>intro i;rfl
 |cons x l ih=>
  intro i;simp only[dM,od]
  cases p x
  ·exact ih (i+1)
  ·exact iI ae
theorem qh{α:Type}(p:α->Bool):∀(l:ah α) (i:Nat),dM p i l= -1\/(i:Int)<=dM p i l/\dM p i l<(i+l.length:Nat):=by
 intro l;induction l with
 |nil=>intro i;exact .inl rfl
 |cons x l ih=>
  intro i;simp only[dM,cI]
  cases p x
  ·rcases ih (i+1)with h|h
   ·exact .inl h
   ·exact .inr (by simp only[cond_false];omega)
  ·exact .inr (by simp only[cond_true];omega)
end
end Go.Proofs.YtfmamkmmohilgaaGreatDoor
namespace Go.Proofs.YtfmamkmmohilgaaGreatDoor
open Go.Proofs.Tryz IntKind
set_option linter.all false
open Go.Shelf Go.Lib
noncomputable section
def Cy:Go.Shelf.Ren:=⟨λ|264=>191|n=>n,λ|46=>177|53=>243|n=>n,λn=>n⟩
theorem D4:Go.Proofs.Lays.n264 prog Cy:={
 mixed:=aa
 f264:=func191.trans (congrArg some aa)
 t46:=underlying177
 a46:=isAgg177
 z46:=sizeOf177
 v46:=zeroValue177
 t53:=underlying243
 a53:=isAgg243
 z53:=sizeOf243
 v53:=zeroValue243
}
def D7:Go.Shelf.Ren:=⟨λ|129=>314|134=>248|n=>n,λ|3=>3|4=>4|5=>5|9=>9|46=>177|53=>243|n=>n,λn=>n⟩
theorem NY:Go.Proofs.Lays.n134 prog D7:={
 mixed:=aa
 f129:=func314.trans (congrArg some aa)
 f134:=func248.trans (congrArg some aa)
 t3:=underlying3
 a3:=isAgg3
 z3:=sizeOf3
 v3:=zeroValue3
 t4:=underlying4
 a4:=isAgg4
 z4:=sizeOf4
 v4:=zeroValue4
 t5:=underlying5
 a5:=isAgg5
 z5:=sizeOf5
 v5:=zeroValue5
 t9:=underlying9
 a9:=isAgg9
 z9:=sizeOf9
 v9:=zeroValue9
 t46:=underlying177
 a46:=isAgg177
 z46:=sizeOf177
 v46:=zeroValue177
 t53:=underlying243
 a53:=isAgg243
 z53:=sizeOf243
 v53:=zeroValue243
}
theorem B1{f:FuncId}{g:ah (AV U El)->Option (Bool×AV U El)}(h:∀vs v,g vs=some v->v.1=true->cV prog E f vs v.2 []\/yH prog E f vs v.2 []):gQ prog E f (cj g) where
 pe:=λvs=>by
  unfold cj;cases g vs with
  |none=>exact⟨none,λ_=>rfl⟩
  |some v=>exact kK _ _ _
 ok:=λvs k r hv=>by
  unfold cj at hv;cases e:g vs with
  |none=>rw[e]at hv;cases hv
  |some v=>
   rw[e]at hv;obtain⟨h1,h2⟩:=aQ hv;exact⟨v.2,[],h vs v e h1,h2⟩
theorem We{S:Nat->Prop}{ρ:eJ}{w:World}{a:AV U El}{vs:Array Value}(h:pb E S ρ w [a] vs):∃v,vs=#[v]/\Rel E S ρ w a v:=by
 obtain⟨h1,h2⟩:=h;match vs,h1,h2 with
 |⟨[v]⟩,_,h2=>exact⟨v,rfl,h2 0 a v rfl rfl⟩
theorem SE{S:Nat->Prop}{ρ:eJ}{w:World}{a b:AV U El}{vs:Array Value}(h:pb E S ρ w [a,b] vs):∃v u,vs=#[v,u]/\Rel E S ρ w a v/\Rel E S ρ w b u:=by
 obtain⟨h1,h2⟩:=h;match vs,h1,h2 with
 |⟨[v,u]⟩,_,h2=>exact⟨v,u,rfl,h2 0 a v rfl rfl,h2 1 b u rfl rfl⟩
theorem SD{S:Nat->Prop}{ρ:eJ}{w:World}{a b c:AV U El}{vs:Array Value}(h:pb E S ρ w [a,b,c] vs):∃v u t,vs=#[v,u,t]/\Rel E S ρ w a v/\Rel E S ρ w b u/\Rel E S ρ w c t:=by
 obtain⟨h1,h2⟩:=h;match vs,h1,h2 with
 |⟨[v,u,t]⟩,_,h2=>exact⟨v,u,t,rfl,h2 0 a v rfl rfl,h2 1 b u rfl rfl,h2 2 c t rfl rfl⟩
theorem PV{S:Nat->Prop}{ρ:eJ}{w:World}(k l:IntKind)(x y:Int):Rel E S ρ w (.bP [.int k x,.int l y]) (.tuple #[.int k x,.int l y]):=
 .bP _ _ rfl λi c v hc hv=>by
  match i,hc,hv with
  |0,hc,hv=>cases hc;cases hv;exact .int _ _
  |1,hc,hv=>cases hc;cases hv;exact .int _ _
def B9{α:Type}(x:α):α:=Classical.choose (⟨x,rfl⟩:∃y,y=x)
theorem mV{α:Type}(x:α):B9 x=x:=eF (⟨x,rfl⟩:∃y,y=x)
def uB(x:Int):Bool:=B9 (bg 0 x&&bz x 18446744073709551616)
theorem gP{x:Int}:uB x=true↔0<=x/\x<18446744073709551616:=by simp only[uB,mV,bg,bz,aj,decide_eq_true_eq]
theorem eO(x:Int):uB (u64.wrap x)=true:=by rw[gP,IntKind.wrap_u64];omega
def mH(x y:Int):Int:=B9 (((x.toNat*y.toNat/18446744073709551616:Nat):Int))
def oW(x y:Int):Int:=B9 (((x.toNat*y.toNat%18446744073709551616:Nat):Int))
def rT(x:Int):Int:=B9 (64-(Lib.bitLen x.toNat:Int))
def C6(x y c:Int):Int:=B9 (((((x.toNat+y.toNat+c.toNat)%18446744073709551616:Nat)):Int))
def Fb(x y c:Int):Int:=B9 (((((x.toNat+y.toNat+c.toNat)/18446744073709551616:Nat)):Int))
def AX(x y c:Int):Int:=B9 (((((x.toNat+18446744073709551616-y.toNat-c.toNat)%18446744073709551616:Nat)):Int))
def Cd(x y c:Int):Int:=B9 (((if x.toNat<y.toNat+c.toNat then 1 else 0:Nat):Int))
namespace oC
def g:ah (AV U El)->Option (Bool×AV U El)
 |[.int .u64 x,.int .u64 y]=>some (uB x&&uB y,.bP [.int .u64 (mH x y),.int .u64 (oW x y)])
 |_=>none
def sp:Sp U El:=cj g
theorem du:gQ prog E 191 sp:=B1 λvs v h hp=>by
 unfold g at h;split at h
 ·rename_i x y;cases h;obtain⟨h1,h2⟩:=aZ.1 hp;obtain⟨x0,x1⟩:=gP.1 h1;obtain⟨y0,y1⟩:=gP.1 h2;obtain⟨x,rfl⟩:=bC x0;obtain⟨y,rfl⟩:=bC y0;refine .inl ⟨call191,(λid b h=>by cases h),λS w vs hlt hG hr=>?_⟩
  obtain⟨v1,v2,rfl,r1,r2⟩:=SE hr;cases r1;cases r2;simp only[mH,oW,mV]
  refine(Any.bits_Mul64 D4 x y ab ab w).mono ?_;rintro e w' ⟨rfl,rfl⟩
  exact⟨_,S,_,rfl,Step.refl hlt,fa.nil hlt _,PV _ _ _ _⟩
 ·cases h
end oC
namespace Qg
def g:ah (AV U El)->Option (Bool×AV U El)
 |[.int .u64 x]=>some (uB x,.int .i64 (rT x))
 |_=>none
def sp:Sp U El:=cj g
theorem du:gQ prog E 248 sp:=B1 λvs v h hp=>by
 unfold g at h;split at h
 ·rename_i x;cases h;obtain⟨x0,x1⟩:=gP.1 hp;refine .inl ⟨call248,(λid b h=>by cases h),λS w vs hlt hG hr=>?_⟩
  obtain⟨v1,rfl,r1⟩:=We hr;cases r1;simp only[rT,mV]
  refine(Any.bits_LeadingZeros64 NY x w x0 ab).mono ?_;rintro e w' ⟨rfl,rfl⟩
  exact⟨_,S,_,rfl,Step.refl hlt,fa.nil hlt _,.int _ _⟩
 ·cases h
end Qg
namespace MI
def g:ah (AV U El)->Option (Bool×AV U El)
 |[.int .u64 x,.int .u64 y,.int .u64 c]=>some (uB x&&(uB y&&(bg 0 c&&bg c 1)),.bP [.int .u64 (C6 x y c),.int .u64 (Fb x y c)])
 |_=>none
def sp:Sp U El:=cj g
theorem du:gQ prog E 335 sp:=B1 λvs v h hp=>by
 unfold g at h;split at h
 ·rename_i x y c;cases h;simp only[aj,gP,bg,decide_eq_true_eq]at hp;obtain⟨⟨x0,x1⟩,⟨y0,y1⟩,c0,c1⟩:=hp;obtain⟨x,rfl⟩:=bC x0;obtain⟨y,rfl⟩:=bC y0;obtain⟨c,rfl⟩:=bC c0;refine .inr ⟨rfl,λS w vs hlt hr=>?_⟩
  obtain⟨v1,v2,v3,rfl,r1,r2,r3⟩:=SD hr;cases r1;cases r2;cases r3;refine⟨.tuple #[.int .u64 (C6 x y c),.int .u64 (Fb x y c)],?_,PV _ _ _ _⟩
  rw[run_callFunc_extern func335 aa aa aa (e:=add64Entry) aa,run_add64 x y c ab ab ab ab]
  simp only[Result.andThen,C6,Fb,mV,ig]
  congr 5<;>omega
 ·cases h
end MI
namespace Dr
def g:ah (AV U El)->Option (Bool×AV U El)
 |[.int .u64 x,.int .u64 y,.int .u64 c]=>some (uB x&&(uB y&&(bg 0 c&&bg c 1)),.bP [.int .u64 (AX x y c),.int .u64 (Cd x y c)])
 |_=>none
def sp:Sp U El:=cj g
theorem du:gQ prog E 336 sp:=B1 λvs v h hp=>by
 unfold g at h;split at h
 ·rename_i x y c;cases h;simp only[aj,gP,bg,decide_eq_true_eq]at hp;obtain⟨⟨x0,x1⟩,⟨y0,y1⟩,c0,c1⟩:=hp;obtain⟨x,rfl⟩:=bC x0;obtain⟨y,rfl⟩:=bC y0;obtain⟨c,rfl⟩:=bC c0;refine .inr ⟨rfl,λS w vs hlt hr=>?_⟩
  obtain⟨v1,v2,v3,rfl,r1,r2,r3⟩:=SD hr;cases r1;cases r2;cases r3;refine⟨.tuple #[.int .u64 (AX x y c),.int .u64 (Cd x y c)],?_,PV _ _ _ _⟩
  rw[run_callFunc_extern func336 aa aa aa (e:=sub64Entry) aa,run_sub64 x y c ab]
  simp only[Result.andThen,AX,Cd,mV,ig]
 ·cases h
end Dr
theorem yN{n:Nat}(h:n<18446744073709551616):uB (n:Int)=true:=gP.2 ⟨ab,ab⟩
theorem vr{x y:Int}(hx:uB x=true)(hy:uB y=true):uB (mH x y)=true:=by
 obtain⟨x0,x1⟩:=gP.1 hx;obtain⟨y0,y1⟩:=gP.1 hy;unfold mH;rw[mV]
 refine yN (Nat.div_lt_of_lt_mul ?_)
 exact Nat.mul_lt_mul_of_lt_of_lt ab ab
theorem ph(x y:Int):uB (oW x y)=true:=by unfold oW;rw[mV];exact yN (Nat.mod_lt _ af)
theorem B_(x y c:Int):uB (AX x y c)=true:=by unfold AX;rw[mV];exact yN (Nat.mod_lt _ af)
theorem Ha(x y c:Int):uB (C6 x y c)=true:=by unfold C6;rw[mV];exact yN (Nat.mod_lt _ af)
def MD(k:IntKind)(x y:Int):Int:=k.wrap (BitVec.ofInt k.bits x&&&BitVec.ofInt k.bits y).toNat
def ub(k:IntKind)(x y:Int):Int:=k.wrap (BitVec.ofInt k.bits x|||BitVec.ofInt k.bits y).toNat
theorem Qf{y:Int}(h0:0<y)(h1:y<18446744073709551616):0<=rT y/\rT y<64/\9223372036854775808<=y*2^(rT y).toNat/\y*2^(rT y).toNat<18446744073709551616:=by
 obtain⟨n,rfl⟩:=bC (Int.le_of_lt h0)
 have hn:0<n:=ab
 have o7:n<2^64:=ab
 have hk: ∀k,k<=64->0<n->n<2^k->0<Lib.bitLen n/\Lib.bitLen n<=k/\2^(Lib.bitLen n-1)<=n/\n<2^Lib.bitLen n:=by
  intro k hk;clear h0 h1 hn o7;induction k generalizing n with
  |zero=>intro a b;omega
  |succ k ih=>
   intro h0 h1;have e:Lib.bitLen n=1+Lib.bitLen (n/2):=Lib.bitLen_half n ab (fk h1 (Nat.pow_le_pow_right af hk))
   by_cases hz:n/2=0
   ·have:n=1:=ab
    subst this;rw[e]
    refine⟨af,?_,af,af⟩
    show 1+0<=k+1;omega
   ·obtain⟨a,b,c,d⟩:=ih (n/2) ab ab (by rw[oX]at h1;omega)
    rw[e]
    generalize Lib.bitLen (n/2)=m at a b c d;obtain⟨m,rfl⟩:=eI (by omega:m≠0)
    refine⟨ab,ab,?_,?_⟩
    ·rw[show 1+(m+1)-1=m+1 by omega,oX]
     rw[show m+1-1=m by omega]at c;omega
    ·rw[show 1+(m+1)=(m+1)+1 by omega,oX]
     omega
 obtain⟨a,b,c,d⟩:=hk 64 ab hn o7;have e:rT (n:Int)=((64-Lib.bitLen n:Nat):Int):=by
  unfold rT;rw[mV,ig]
  omega
 have p1:n*2^(64-Lib.bitLen n)<18446744073709551616:=by
  have:=Nat.mul_lt_mul_of_pos_right d (Nat.pow_pos (n:=64-Lib.bitLen n) (by decide:0<2))
  rw[<-Nat.pow_add,show Lib.bitLen n+(64-Lib.bitLen n)=64 by omega]at this;exact this
 have p2:9223372036854775808<=n*2^(64-Lib.bitLen n):=by
  have:=bu (2^(64-Lib.bitLen n)) c;rw[<-Nat.pow_add,show Lib.bitLen n-1+(64-Lib.bitLen n)=63 by omega]at this;exact this
 rw[e,ig]
 have q:(n:Int)*2^(64-Lib.bitLen n)=((n*2^(64-Lib.bitLen n):Nat):Int):=by rw[Int.natCast_mul,Int.natCast_pow];rfl
 rw[q]
 refine⟨ab,ab,ab,ab⟩
end
end Go.Proofs.YtfmamkmmohilgaaGreatDoor
namespace Go.Proofs.YtfmamkmmohilgaaGreatDoor
open Go.Proofs.Tryz IntKind
set_option linter.all false
set_option maxRecDepth 100000
noncomputable section
def aq(b:Bool):R:=some (.bool b,[])
def gl(z:Int):R:=some (.int .i64 z,[])
theorem oB(b:Bool):(some (.bool b,[]):R)=aq b:=rfl
theorem cB(a x y:Bool):ai a (aq x) (aq y)=aq (bif a then x else y):=by cases a<;>rfl
def uY(c:Int):Bool:=bg 48 c&&bg c 57
def lQ(c:Int):Bool:=(bg 97 c&&bg c 122)||(bg 65 c&&bg c 90)
def EW(b:UInt8):Bool:=lQ (Int.ofNat b.toNat)||(uY (Int.ofNat b.toNat)||(Int.ofNat b.toNat==(95:Int)))
def vp:ah UInt8->Nat
 |[]=>0
 |b::s=>bif EW b then vp s+1 else 0
def G_(s:ah UInt8)(i:Int):Int:=i+Int.ofNat (vp (s.drop i.toNat))
def Bz(s:ah UInt8):Int:=Int.ofNat (vp s)
def KX(s:ah UInt8)(i:Int):Bool:=bg 0 i&&(bg i (Int.ofNat s.length)&&bU s.length 90000)
def fj(s:ah UInt8):Bool:= !(s==[])&&(bg (Int.ofNat s.length) 20&&(lQ (Int.ofNat (List.getD s 0 0).toNat)&&(Bz s==Int.ofNat s.length)))
def mo(m n:Int):Bool:=bg (-m) n&&bg n m
def tX(x:Node):Bool:=bz 20 (Int.ofNat x.nh.length)||bz 60 (Int.ofNat x.nn.length)
def qk(x:cJ):Bool:=bz 20 (Int.ofNat x.lv.length)||(bz 60 (Int.ofNat x.ln.length)||(bz 60 (Int.ofNat x.lf.length)||(bz 60 (Int.ofNat x.lt.length)||bz 60 (Int.ofNat x.lc.length))))
def rO(x:cK):Bool:=bz 20 (Int.ofNat x.sa.length)||bz 20 (Int.ofNat x.sc.length)
def rP(r:cT):Bool:=bz 8 (Int.ofNat r.rw.length)
def nT(n:Int):Bool:=bz n (-4194304)||bz 4194304 n
def isNode(s:ah UInt8)(x:Node):Bool:=x.nn==s
def uQ(s:ah UInt8)(x:cJ):Bool:=x.ln==s
def ou(x:cH):Bool:= !(bg 0 x.kx&&bg x.kx 4194304)|| !(bg 0 x.ky&&bg x.ky 1099511627776)
namespace KT
def X:=dp [] 9
def f0(c:Int):R:=ai (bg (48:Int) c) (aq (bg c (57:Int))) (aq false)
theorem run(c):ca X (dG f153) .d (cS [2]) [2] [] [.int .u8 c]=f0 c:=aa
theorem aw(c:Int):f0 c=aq (uY c):=gU aq _ _
def c:Ct:=⟨153,dU (A1 (aK .u8) λc=>(.bool (uY c))),oS call153 func153 (a1 λc=>(run c).trans (aw c))⟩
end KT
namespace Cj
def X:=dp [] 17
def f0(c:Int):R:=ai (bg (97:Int) c) (ai (bg c (122:Int)) (aq true) (ai (bg (65:Int) c) (aq (bg c (90:Int))) (aq false))) (ai (bg (65:Int) c) (aq (bg c (90:Int))) (aq false))
theorem run(c):ca X (dG f88) .d (cS [2]) [2] [] [.int .u8 c]=f0 c:=aa
theorem aw(c:Int):f0 c=aq (lQ c):=by
 unfold f0 lQ;cases bg 97 c
 ·exact gU aq _ _
 ·cases bg c 122
  ·exact gU aq _ _
  ·rfl
def c:Ct:=⟨88,dU (A1 (aK .u8) λc=>(.bool (lQ c))),oS call88 func88 (a1 λc=>(run c).trans (aw c))⟩
end Cj
namespace digit
def X:=dp [] 9
def f0(c:Int):R:=ai (bg (48:Int) c) (aq (bg c (57:Int))) (aq false)
theorem run(c):ca X (dG f242) .d (cS [2]) [2] [] [.int .u8 c]=f0 c:=aa
theorem aw(c:Int):f0 c=aq (uY c):=gU aq _ _
def c:Ct:=⟨242,dU (A1 (aK .u8) λc=>(.bool (uY c))),oS call242 func242 (a1 λc=>(run c).trans (aw c))⟩
end digit
namespace letter
def X:=dp [] 17
def f0(c:Int):R:=ai (bg (97:Int) c) (ai (bg c (122:Int)) (aq true) (ai (bg (65:Int) c) (aq (bg c (90:Int))) (aq false))) (ai (bg (65:Int) c) (aq (bg c (90:Int))) (aq false))
theorem run(c):ca X (dG f174) .d (cS [2]) [2] [] [.int .u8 c]=f0 c:=aa
theorem aw(c:Int):f0 c=aq (lQ c):=by
 unfold f0 lQ;cases bg 97 c
 ·exact gU aq _ _
 ·cases bg c 122
  ·exact gU aq _ _
  ·rfl
def c:Ct:=⟨174,dU (A1 (aK .u8) λc=>(.bool (lQ c))),oS call174 func174 (a1 λc=>(run c).trans (aw c))⟩
end letter
theorem U8{R:Type}(a b c:Bool)(x y:R):ai a x (ai b x (ai c x y))=ai (a||(b||c)) x y:=by cases a<;>cases b<;>cases c<;>rfl
namespace O3
variable(gW:bn U El)(s0:ah UInt8)(i1:Int)(s:ah UInt8)(i:Int)
def X:=dp [Cj.c,KT.c] 30
def bd:=dG f89
def RR:bn U El:=λst=>cN (cS [4]) st (ch [4] [])
def eE:Norm U:=cS [1]
def dI:Norm U:=cS [0,1]
def an:gb U:=(.seq none .d (.seq (some eE) (.block (.loop dI (.seq (some dI) .d .d))) .d))
abbrev Y1:=Int->R
abbrev Y2:=(ah UInt8)->Int->R
abbrev Y3:=(ah UInt8)->Int->R
def fY:St U El:=⟨[(0,.str s0),(1,.int .i64 i1)],[]⟩
def cX(k2:Y2):R:=k2 s i
def dR:R:=gl i1
def dQ(k1:Y1)(k3:Y3):R:=ai (bz i1 (Int.ofNat s0.length)) (aU (dV i1 s0.length) (ai (lQ (Int.ofNat (UInt8.toNat (List.getD s0 i1.toNat 0)))) (k3 s0 i1) (aU (dV i1 s0.length) (ai (uY (Int.ofNat (UInt8.toNat (List.getD s0 i1.toNat 0)))) (k3 s0 i1) (aU (dV i1 s0.length) (ai ((Int.ofNat (UInt8.toNat (List.getD s0 i1.toNat 0)))==(95:Int)) (k3 s0 i1) (k1 i1))))))) (k1 i1)
def gf(k2:Y2):R:=k2 s0 (i64.wrap (i1+(1:Int)))
abbrev ex:=kf X bd an RR
abbrev it:=nO X bd an RR
def gu:=it dI [1,0,0,0] (cu 0 (bG eE gW) nE)
def cQ:=ex [1,1] RR nE
def mz(iP:bn U El):=ex [1,0,0,0,1] (bG dI iP) (cu 0 (bG eE gW) nE)
def f1:R:=dR i1
def f3(k2:Y2)(s0:ah UInt8)(i1:Int):R:=gf s0 i1 k2
def f2:Nat->Y2
 |0=>λ_ _=>none
 |n+1=>λs0 i1=>dQ s0 i1 f1 (f3 (f2 n))
def f0:R:=cX s i (f2 100000)
theorem E1:(λi1=>(hid cQ) ⟨[(1,.int .i64 i1)],[]⟩)=f1:=by funext i1;refine cm ?_;unfold f1;exact aa
theorem E3(jW:bn U El)(k2:Y2)(h2:(λs0 i1=>jW (fY s0 i1))=k2):(λs0 i1=>(hid (mz (hid cQ) jW)) ⟨[(0,.str s0),(1,.int .i64 i1)],[]⟩)=f3 k2:=by subst h2;funext s0 i1;refine cm ?_;unfold f3;exact aa
theorem T2:∀n,(λs0 i1=>gu (hid cQ) n (fY s0 i1))=f2 n:=by
 intro n;induction n with
 |zero=>rfl
 |succ n ih=>funext s0 i1;rw[f2];rw[<-E1,<-E3 (gu (hid cQ) n) _ ih];exact aa
theorem H2:(λs0 i1=>hid (gu (hid cQ) 100000) (fY s0 i1))=f2 100000:=by rw[cM];exact(T2 100000)
theorem run:ca X bd an (cS [4]) [4] [] [.str s,.int .i64 i]=f0 s i:=by unfold f0;rw[<-H2];exact aa
theorem loop(hl:s.length<=90000): ∀(n i:Nat),s.length<n+i->i<=s.length->f2 n s (i:Int)=some (.int .i64 ((i:Int)+Int.ofNat (vp (s.drop i))),[]):=by
 intro n;induction n with
 |zero=>intro i h1 h2;omega
 |succ n ih=>
  intro i h1 h2;show dQ s (i:Int) f1 (f3 (f2 n))=_;unfold dQ;by_cases hi:i<s.length
  ·rw[eh (show(i:Int)<Int.ofNat s.length by simp;omega),c9 hi,toNat_nat,bQ hi,fK hi]
   simp only[eZ,ee]
   rw[U8]
   show ai (EW s[i]) (f2 n s (i64.wrap ((i:Int)+1))) (f1 (i:Int))=_;unfold vp;cases EW s[i]
   ·show some (_,_)=some (_,_)
    simp
   ·show f2 n s (i64.wrap ((i:Int)+1))=_;rw[eY i ab,ih (i+1) ab hi]
    congr 3;simp only[cond_true,aW]
    omega
  ·have:i=s.length:=ab
   subst this;rw[dF ae,bH]
   show some (_,_)=some (_,_)
   simp[vp]
theorem aw(h:KX s i=true):f0 s i=some (.int .i64 (G_ s i),[]):=by simp only[KX,aj]at h;have h1:=ja h.1;have h2:=ja h.2.1;have h3:=ia h.2.2;obtain⟨j,rfl⟩:=bC h1;exact loop s h3 100000 j ab (by simp at h2;omega)
def c:Ct:=⟨89,cj (A2 aS aI λs i=>(KX s i,.int .i64 (G_ s i))),ir call89 func89 (a2 λs i e_=>(run s i).trans (aw s i e_))⟩
end O3
namespace word
variable(gW:bn U El)(s0:ah UInt8)(i3:Int)(s:ah UInt8)
def X:=dp [letter.c,digit.c] 29
def bd:=dG f175
def RR:bn U El:=λst=>cN (cS [2]) st (ch [2] [])
def eE:Norm U:=cS [3]
def dI:Norm U:=cS [0,3]
def an:gb U:=(.seq none .d (.seq none .d (.seq (some eE) (.block (.loop dI (.seq (some dI) .d .d))) .d)))
abbrev Y1:=Int->R
abbrev Y2:=(ah UInt8)->Int->R
abbrev Y3:=(ah UInt8)->Int->R
def fY:St U El:=⟨[(0,.str s0),(3,.int .i64 i3)],[]⟩
def cX(k2:Y2):R:=k2 s (0:Int)
def dR:R:=gl i3
def dQ(k1:Y1)(k3:Y3):R:=ai (bz i3 (Int.ofNat s0.length)) (aU (dV i3 s0.length) (ai (lQ (Int.ofNat (UInt8.toNat (List.getD s0 i3.toNat 0)))) (k3 s0 i3) (aU (dV i3 s0.length) (ai (uY (Int.ofNat (UInt8.toNat (List.getD s0 i3.toNat 0)))) (k3 s0 i3) (aU (dV i3 s0.length) (ai ((Int.ofNat (UInt8.toNat (List.getD s0 i3.toNat 0)))==(95:Int)) (k3 s0 i3) (k1 i3))))))) (k1 i3)
def gf(k2:Y2):R:=k2 s0 (i64.wrap (i3+(1:Int)))
abbrev ex:=kf X bd an RR
abbrev it:=nO X bd an RR
def gu:=it dI [1,1,0,0,0] (cu 0 (bG eE gW) nE)
def cQ:=ex [1,1,1] RR nE
def mz(iP:bn U El):=ex [1,1,0,0,0,1] (bG dI iP) (cu 0 (bG eE gW) nE)
def f1:R:=dR i3
def f3(k2:Y2)(s0:ah UInt8)(i3:Int):R:=gf s0 i3 k2
def f2:Nat->Y2
 |0=>λ_ _=>none
 |n+1=>λs0 i3=>dQ s0 i3 f1 (f3 (f2 n))
def f0:R:=cX s (f2 100000)
theorem E1:(λi3=>(hid cQ) ⟨[(3,.int .i64 i3)],[]⟩)=f1:=by funext i3;refine cm ?_;unfold f1;exact aa
theorem E3(jW:bn U El)(k2:Y2)(h2:(λs0 i3=>jW (fY s0 i3))=k2):(λs0 i3=>(hid (mz (hid cQ) jW)) ⟨[(0,.str s0),(3,.int .i64 i3)],[]⟩)=f3 k2:=by subst h2;funext s0 i3;refine cm ?_;unfold f3;exact aa
theorem T2:∀n,(λs0 i3=>gu (hid cQ) n (fY s0 i3))=f2 n:=by
 intro n;induction n with
 |zero=>rfl
 |succ n ih=>funext s0 i3;rw[f2];rw[<-E1,<-E3 (gu (hid cQ) n) _ ih];exact aa
theorem H2:(λs0 i3=>hid (gu (hid cQ) 100000) (fY s0 i3))=f2 100000:=by rw[cM];exact(T2 100000)
theorem run:ca X bd an (cS [2]) [2] [] [.str s]=f0 s:=by unfold f0;rw[<-H2];exact aa
theorem loop(hl:s.length<=90000): ∀(n i:Nat),s.length<n+i->i<=s.length->f2 n s (i:Int)=some (.int .i64 ((i:Int)+Int.ofNat (vp (s.drop i))),[]):=by
 intro n;induction n with
 |zero=>intro i h1 h2;omega
 |succ n ih=>
  intro i h1 h2;show dQ s (i:Int) f1 (f3 (f2 n))=_;unfold dQ;by_cases hi:i<s.length
  ·rw[eh (show(i:Int)<Int.ofNat s.length by simp;omega),c9 hi,toNat_nat,bQ hi,fK hi]
   simp only[eZ,ee]
   rw[U8]
   show ai (EW s[i]) (f2 n s (i64.wrap ((i:Int)+1))) (f1 (i:Int))=_;unfold vp;cases EW s[i]
   ·show some (_,_)=some (_,_)
    simp
   ·show f2 n s (i64.wrap ((i:Int)+1))=_;rw[eY i ab,ih (i+1) ab hi]
    congr 3;simp only[cond_true,aW]
    omega
  ·have:i=s.length:=ab
   subst this;rw[dF ae,bH]
   show some (_,_)=some (_,_)
   simp[vp]
theorem aw(h:bU s.length 90000=true):f0 s=some (.int .i64 (Bz s),[]):=by
 have:=loop s (ia h) 100000 0 (by have:=ia h;omega) ab
 simp only[fq]at this;exact this.trans (by simp[Bz])
def c:Ct:=⟨175,cj (A1 aS λs=>(bU s.length 90000,.int .i64 (Bz s))),ir call175 func175 (a1 λs e_=>(run s).trans (aw s e_))⟩
end word
namespace rv
variable(s0 s:ah UInt8)
def X:=dp [Cj.c,O3.c] 22
def bd:=dG f36
def RR:bn U El:=λst=>cN (cS [2]) st (ch [2] [])
def an:gb U:=(.seq none .d (.seq (some (cS [0])) .d .d))
abbrev Y1:=(ah UInt8)->R
def cX(k1:Y1):R:=ai ((Int.ofNat s.length)==(0:Int)) (aq false) (ai (bz (20:Int) (Int.ofNat s.length)) (aq false) (aU (dV (0:Int) s.length) (ai (!(lQ (Int.ofNat (UInt8.toNat (List.getD s 0 0))))) (aq false) (k1 s))))
def dR:R:=aU (KX s0 (0:Int)) (aq ((G_ s0 (0:Int))==(Int.ofNat s0.length)))
abbrev ex:=kf X bd an RR
def cQ:=ex [1,1] RR nE
def f1:R:=dR s0
def f0:R:=cX s f1
theorem E1:(λs0=>(hid cQ) ⟨[(0,.str s0)],[]⟩)=f1:=by funext s0;refine cm ?_;unfold f1;exact aa
theorem run:ca X bd an (cS [2]) [2] [] [.str s]=f0 s:=by unfold f0;rw[<-E1];exact aa
theorem aw:f0 s=aq (fj s):=by
 show cX s f1=_;unfold cX fj;cases s with
 |nil=>rfl
 |cons b s=>
  rw[show(Int.ofNat (b::s).length==(0:Int))=false by simp;omega,show((b::s)==([]:ah UInt8))=false from rfl]
  by_cases hl:Int.ofNat (b::s).length<=20
  ·rw[iI hl,dF ab,Gk ae]
   simp only[gy,eZ]
   cases hb:lQ (Int.ofNat (List.getD (b::s) 0 0).toNat)
   ·rfl
   ·show dR (b::s)=_;unfold dR;rw[show KX (b::s) 0=true from aZ.2 ⟨rfl,aZ.2 ⟨iI (by simp;omega),c_ (by simp at hl;simp;omega)⟩⟩]
    show aq _=aq _;simp[G_,Bz]
  ·rw[eh ab,Ji hl]
   rfl
def c:Ct:=⟨36,dU (A1 aS λs=>(.bool (fj s))),oS call36 func36 (a1 λs=>(run s).trans (aw s))⟩
end rv
namespace uP
variable(s:ah UInt8)
def X:=dp [letter.c,word.c] 22
def f0:R:=ai (!(s==([]:ah UInt8))) (ai (bg (Int.ofNat s.length) (20:Int)) (aU (dV (0:Int) s.length) (ai (lQ (Int.ofNat (UInt8.toNat (List.getD s 0 0)))) (aU (bU s.length 90000) (aq ((Bz s)==(Int.ofNat s.length)))) (aq false))) (aq false)) (aq false)
theorem run:ca X (dG f103) .d (cS [2]) [2] [] [.str s]=f0 s:=aa
theorem aw:f0 s=aq (fj s):=by
 unfold f0 fj;cases s with
 |nil=>rfl
 |cons b s=>
  rw[show((b::s)==([]:ah UInt8))=false from rfl]
  by_cases hl:Int.ofNat (b::s).length<=20
  ·rw[iI hl,Gk ae,c_ (show(b::s).length<=90000 by simp at hl;simp;omega)]
   exact gU aq _ _
  ·rw[Ji hl]
   rfl
def c:Ct:=⟨103,dU (A1 aS λs=>(.bool (fj s))),oS call103 func103 (a1 λs=>(run s).trans (aw s))⟩
end uP
namespace Cg
variable(n lo hi:Int)
def X:=dp [] 15
def f0:R:=ai (bg lo n) (aq (bg n hi)) (aq false)
theorem run:ca X (dG f158) .d (cS [6]) [6] [] [.int .i64 n,.int .i64 lo,.int .i64 hi]=f0 n lo hi:=aa
theorem aw:f0 n lo hi=aq (bg lo n&&bg n hi):=gU aq _ _
def c:Ct:=⟨158,dU (A3 aI aI aI λn lo hi=>(.bool (bg lo n&&bg n hi))),oS call158 func158 (a3 λn lo hi=>(run n lo hi).trans (aw n lo hi))⟩
end Cg
namespace between
variable(n lo hi:Int)
def X:=dp [] 15
def f0:R:=ai (bg lo n) (aq (bg n hi)) (aq false)
theorem run:ca X (dG f179) .d (cS [6]) [6] [] [.int .i64 n,.int .i64 lo,.int .i64 hi]=f0 n lo hi:=aa
theorem aw:f0 n lo hi=aq (bg lo n&&bg n hi):=gU aq _ _
def c:Ct:=⟨179,dU (A3 aI aI aI λn lo hi=>(.bool (bg lo n&&bg n hi))),oS call179 func179 (a3 λn lo hi=>(run n lo hi).trans (aw n lo hi))⟩
end between
namespace Cc
variable(n lo hi:Int)
def X:=dp [] 15
def f0:R:=ai (bg lo n) (aq (bg n hi)) (aq false)
theorem run:ca X (dG f113) .d (cS [6]) [6] [] [.int .i64 n,.int .i64 lo,.int .i64 hi]=f0 n lo hi:=aa
theorem aw:f0 n lo hi=aq (bg lo n&&bg n hi):=gU aq _ _
def c:Ct:=⟨113,dU (A3 aI aI aI λn lo hi=>(.bool (bg lo n&&bg n hi))),oS call113 func113 (a3 λn lo hi=>(run n lo hi).trans (aw n lo hi))⟩
end Cc
namespace Ca
variable(n lo hi:Int)
def X:=dp [] 15
def f0:R:=ai (bg lo n) (aq (bg n hi)) (aq false)
theorem run:ca X (dG f60) .d (cS [6]) [6] [] [.int .i64 n,.int .i64 lo,.int .i64 hi]=f0 n lo hi:=aa
theorem aw:f0 n lo hi=aq (bg lo n&&bg n hi):=gU aq _ _
def c:Ct:=⟨60,dU (A3 aI aI aI λn lo hi=>(.bool (bg lo n&&bg n hi))),oS call60 func60 (a3 λn lo hi=>(run n lo hi).trans (aw n lo hi))⟩
end Ca
namespace vK
variable(n lo hi:Int)
def X:=dp [] 15
def f0:R:=ai (bg lo n) (aq (bg n hi)) (aq false)
theorem run:ca X (dG f456) .d (cS [6]) [6] [] [.int .i64 n,.int .i64 lo,.int .i64 hi]=f0 n lo hi:=aa
theorem aw:f0 n lo hi=aq (bg lo n&&bg n hi):=gU aq _ _
def c:Ct:=⟨456,dU (A3 aI aI aI λn lo hi=>(.bool (bg lo n&&bg n hi))),oS call456 func456 (a3 λn lo hi=>(run n lo hi).trans (aw n lo hi))⟩
end vK
namespace Co
variable(n lo hi:Int)
def X:=dp [] 15
def f0:R:=ai (bg lo n) (aq (bg n hi)) (aq false)
theorem run:ca X (dG f421) .d (cS [6]) [6] [] [.int .i64 n,.int .i64 lo,.int .i64 hi]=f0 n lo hi:=aa
theorem aw:f0 n lo hi=aq (bg lo n&&bg n hi):=gU aq _ _
def c:Ct:=⟨421,dU (A3 aI aI aI λn lo hi=>(.bool (bg lo n&&bg n hi))),oS call421 func421 (a3 λn lo hi=>(run n lo hi).trans (aw n lo hi))⟩
end Co
namespace Ic
def X:=dp [] 12
def f0(n m:Int):R:=ai (bg (0:Int) n) (aq (bg n m)) (aq false)
theorem run(n m):ca X (dG f163) .d (cS [4]) [4] [] [.int .i64 n,.int .i64 m]=f0 n m:=aa
theorem aw(n m:Int):f0 n m=aq (bg 0 n&&bg n m):=gU aq _ _
def c:Ct:=⟨163,dU (A2 aI aI λn m=>(.bool (bg 0 n&&bg n m))),oS call163 func163 (a2 λn m=>(run n m).trans (aw n m))⟩
end Ic
namespace BH
variable(n:Int)
def X:=dp [] 9
def f0:R:=ai (bg (-16777216:Int) n) (aq (bg n (16777216:Int))) (aq false)
theorem run:ca X (dG f147) .d (cS [2]) [2] [] [.int .i64 n]=f0 n:=aa
theorem aw:f0 n=aq (mo 16777216 n):=gU aq _ _
def c:Ct:=⟨147,dU (A1 aI λn=>(.bool (mo 16777216 n))),oS call147 func147 (a1 λn=>(run n).trans (aw n))⟩
end BH
namespace FL
variable(n:Int)
def X:=dp [] 9
def f0:R:=ai (bg (-4194304:Int) n) (aq (bg n (4194304:Int))) (aq false)
theorem run:ca X (dG f148) .d (cS [2]) [2] [] [.int .i64 n]=f0 n:=aa
theorem aw:f0 n=aq (mo 4194304 n):=gU aq _ _
def c:Ct:=⟨148,dU (A1 aI λn=>(.bool (mo 4194304 n))),oS call148 func148 (a1 λn=>(run n).trans (aw n))⟩
end FL
namespace BG
def X:=dp [] 12
def f0(n m:Int):R:=ai (bg (1:Int) n) (aq (bg n m)) (aq false)
theorem run(n m):ca X (dG f150) .d (cS [4]) [4] [] [.int .i64 n,.int .i64 m]=f0 n m:=aa
theorem aw(n m:Int):f0 n m=aq (bg 1 n&&bg n m):=gU aq _ _
def c:Ct:=⟨150,dU (A2 aI aI λn m=>(.bool (bg 1 n&&bg n m))),oS call150 func150 (a2 λn m=>(run n m).trans (aw n m))⟩
end BG
namespace Hp
variable(n:Int)
def X:=dp [] 9
def f0:R:=ai (bg (-1125899906842624:Int) n) (aq (bg n (1125899906842624:Int))) (aq false)
theorem run:ca X (dG f303) .d (cS [2]) [2] [] [.int .i64 n]=f0 n:=aa
theorem aw:f0 n=aq (mo 1125899906842624 n):=gU aq _ _
def c:Ct:=⟨303,dU (A1 aI λn=>(.bool (mo 1125899906842624 n))),oS call303 func303 (a1 λn=>(run n).trans (aw n))⟩
end Hp
namespace fits
variable(n:Int)
def X:=dp [] 9
def f0:R:=ai (bg (-1125899906842624:Int) n) (aq (bg n (1125899906842624:Int))) (aq false)
theorem run:ca X (dG f246) .d (cS [2]) [2] [] [.int .i64 n]=f0 n:=aa
theorem aw:f0 n=aq (mo 1125899906842624 n):=gU aq _ _
def c:Ct:=⟨246,dU (A1 aI λn=>(.bool (mo 1125899906842624 n))),oS call246 func246 (a1 λn=>(run n).trans (aw n))⟩
end fits
namespace FD
variable(v:Int)
def X:=dp [Cc.c] 5
def f0:R:=aq (bg (0:Int) v&&bg v (1125899906842624:Int))
theorem run:ca X (dG f115) .d (cS [2]) [2] [] [.int .i64 v]=f0 v:=aa
theorem aw:f0 v=aq (bg 0 v&&bg v 1125899906842624):=rfl
def c:Ct:=⟨115,dU (A1 aI λv=>(.bool (bg 0 v&&bg v 1125899906842624))),oS call115 func115 (a1 λv=>(run v).trans (aw v))⟩
end FD
namespace instant
variable(t:Int)
def X:=dp [Ca.c] 5
def f0:R:=aq (bg (-68719476736:Int) t&&bg t (68719476736:Int))
theorem run:ca X (dG f243) .d (cS [2]) [2] [] [.int .i64 t]=f0 t:=aa
theorem aw:f0 t=aq (mo 68719476736 t):=rfl
def c:Ct:=⟨243,dU (A1 aI λt=>(.bool (mo 68719476736 t))),oS call243 func243 (a1 λt=>(run t).trans (aw t))⟩
end instant
namespace zy
variable(n:Int)
def X:=dp [vK.c] 5
def f0:R:=aq (bg (-4194304:Int) n&&bg n (4194304:Int))
theorem run:ca X (dG f451) .d (cS [2]) [2] [] [.int .i64 n]=f0 n:=aa
theorem aw:f0 n=aq (mo 4194304 n):=rfl
def c:Ct:=⟨451,dU (A1 aI λn=>(.bool (mo 4194304 n))),oS call451 func451 (a1 λn=>(run n).trans (aw n))⟩
end zy
namespace KY
variable(n:Int)
def X:=dp [Co.c] 5
def f0:R:=aq (bg (-4194304:Int) n&&bg n (4194304:Int))
theorem run:ca X (dG f368) .d (cS [2]) [2] [] [.int .i64 n]=f0 n:=aa
theorem aw:f0 n=aq (mo 4194304 n):=rfl
def c:Ct:=⟨368,dU (A1 aI λn=>(.bool (mo 4194304 n))),oS call368 func368 (a1 λn=>(run n).trans (aw n))⟩
end KY
namespace Ch
variable(v:Int)
def X:=dp [] 9
def f0:R:=ai (bg (0:Int) v) (aq (bg v (1125899906842624:Int))) (aq false)
theorem run:ca X (dG f35) .d (cS [2]) [2] [] [.int .i64 v]=f0 v:=aa
theorem aw:f0 v=aq (bg 0 v&&bg v 1125899906842624):=gU aq _ _
def c:Ct:=⟨35,dU (A1 aI λv=>(.bool (bg 0 v&&bg v 1125899906842624))),oS call35 func35 (a1 λv=>(run v).trans (aw v))⟩
end Ch
namespace O5
variable(n:Int)
def X:=dp [] 9
def f0:R:=ai (bg (-68719476736:Int) n) (aq (bg n (68719476736:Int))) (aq false)
theorem run:ca X (dG f90) .d (cS [2]) [2] [] [.int .i64 n]=f0 n:=aa
theorem aw:f0 n=aq (mo 68719476736 n):=gU aq _ _
def c:Ct:=⟨90,dU (A1 aI λn=>(.bool (mo 68719476736 n))),oS call90 func90 (a1 λn=>(run n).trans (aw n))⟩
end O5
def Is(V:Fin U El->Prop)(r:R):Prop:=∃p,r=some p/\V p
theorem Is.mk{V:Fin U El->Prop}{p:Fin U El}(h:V p):Is V (some p):=⟨p,rfl,h⟩
theorem Is.fy{V:Fin U El->Prop}{b:Bool}{x y:R}(h1:b=true->Is V x)(h2:b=false->Is V y):Is V (ai b x y):=by
 cases b
 ·exact h2 rfl
 ·exact h1 rfl
theorem Is.aU{V:Fin U El->Prop}{b:Bool}{x:R}(h1:b=true)(h2:Is V x):Is V (aU b x):=by rw[h1];exact h2
def De{α:Type} [Nonempty α](q:α->Fin U El)(r:R):α:=Classical.epsilon λa=>r=some (q a)
theorem Is.iJ{α:Type} [Nonempty α]{q:α->Fin U El}{r:R}(h:Is (λp=>∃a,p=q a) r):r=some (q (De q r)):=by obtain⟨p,h1,a,rfl⟩:=h;exact gD (p:=λa=>r=some (q a)) ⟨a,h1⟩
def IZ(u:U)(p:ah (El u)×Int):Fin U El:=(.bP [.au u p.1,.int .i64 p.2],[])
def AJ(u:U)(p:ah (El u)×Int):Fin U El:=(.bP [.cf 0,.int .i64 p.2],[(0,.rows u p.1)])
def kX(p:Int×Int):Fin U El:=(.bP [.int .i64 p.1,.int .i64 p.2],[])
def qI(p:Int):Fin U El:=(.int .i64 p,[])
abbrev kt{α:Type}(q:α->Fin U El)(G:α->Prop):R->Prop:=Is λp=>∃a,p=q a/\G a
abbrev jF{α:Type}(q:α->Fin U El):R->Prop:=Is λp=>∃a,p=q a
theorem kt.iJ{α:Type} [Nonempty α]{q:α->Fin U El}{G:α->Prop}{r:R}(h:kt q G r):r=some (q (Classical.epsilon λa=>r=some (q a)/\G a))/\G (Classical.epsilon λa=>r=some (q a)/\G a):=by obtain⟨p,h1,a,rfl,h2⟩:=h;exact gD (p:=λa=>r=some (q a)/\G a) ⟨a,h1,h2⟩
theorem kt.mk{α:Type}{q:α->Fin U El}{G:α->Prop}(a:α)(h:G a):kt q G (some (q a)):=⟨_,rfl,a,rfl,h⟩
theorem jF.mk{α:Type}{q:α->Fin U El}(a:α):jF q (some (q a)):=⟨_,rfl,a,rfl⟩
def jJ(a:Num):Bool:=uB a.hhi&&uB a.gr
instance:Inhabited Num:=⟨⟨0,0,false⟩⟩
instance:Inhabited pa:=⟨⟨0,0⟩⟩
def qU(x:Int):Fin U El:=(.int .u64 x,[])
def Wg(p:Int×Int):Fin U El:=(.bP [.int .u64 p.1,.int .u64 p.2],[])
def qB(b:Bool):Fin U El:=(.bool b,[])
def qN(a:Num):Fin U El:=(.agg [.int .u64 a.hhi,.int .u64 a.gr,.bool a.hneg],[])
def JX(p:pa×Int):Fin U El:=(.bP [.agg [.int .i64 p.1.vg,.int .i64 p.1.wG],.int .i64 p.2],[])
def DK(p:Int×Int×Int):Fin U El:=(.bP [.int .i64 p.1,.int .i64 p.2.1,.int .i64 p.2.2],[])
theorem zz{x y:Int}{b:Bool}(hx:uB x=true)(hy:uB y=true):kt qN (λa=>jJ a=true) (some (.agg [.int .u64 x,.int .u64 y,.bool b],[])):=kt.mk (⟨x,y,b⟩:Num) (by simp only[jJ,hx,hy,Bool.and_self])
theorem j3(x y:Int):jF kX (some (.bP [.int .i64 x,.int .i64 y],[])):=jF.mk (q:=kX) (x,y)
theorem DY(x y z:Int):jF DK (some (.bP [.int .i64 x,.int .i64 y,.int .i64 z],[])):=jF.mk (q:=DK) (x,y,z)
theorem K7(x:Int):jF qI (some (.int .i64 x,[])):=jF.mk (q:=qI) x
theorem okB(x:Bool):jF qB (some (.bool x,[])):=jF.mk (q:=qB) x
theorem I7(x y z:Int):jF JX (some (.bP [.agg [.int .i64 x,.int .i64 y],.int .i64 z],[])):=jF.mk (q:=JX) (⟨x,y⟩,z)
theorem mf{a:Num}:jJ a=true↔uB a.hhi=true/\uB a.gr=true:=by simp only[jJ,aj]
theorem pT{x:Int}(h0:0<=x)(h1:x<18446744073709551616):u64.wrap x=x:=by rw[IntKind.wrap_u64];omega
theorem eN{a b:Bool}(h1:a=true)(h2:b=true):(a&&b)=true:=by rw[h1,h2];rfl
theorem Py{a b:Int}(h:a≠b):(a==b)=false:=by simpa using h
theorem Pa{a b:Int}(h:a≠b):(a !=b)=true:=by simpa using h
theorem PL{x y:Int}(h:uB x=true)(hy:0<=y):uB (Int.fdiv x y)=true:=by
 obtain⟨h0,h1⟩:=gP.1 h;obtain⟨x,rfl⟩:=bC h0;obtain⟨y,rfl⟩:=bC hy;rw[fR _ hy,<-Int.natCast_ediv]
 exact yN (Nat.lt_of_le_of_lt (Nat.div_le_self _ _) ab)
end
end Go.Proofs.YtfmamkmmohilgaaGreatDoor
