/- The awake check, the plain law of crashed disks, and the law's own run, which comes to true. Conditions: the contracts' preconditions, which the law's run meets. -/
import Derived.Test.YtfmamkmmohilgaaGreatDoorVW
import Derived.Shelf.Strconv.Itoa3
import Derived.Shelf.Strconv.Atoi
import Derived.Lib.AtoiErrMem
import Derived.Shelf.Small.Strs
import Derived.Shelf.Strings.Split
import Derived.Shelf.Strings.Cut
import Derived.Handy
import Derived.BigQuiet
namespace Go.Proofs.YtfmamkmmohilgaaGreatDoor
open Go.Proofs.Tryz IntKind
set_option linter.all false
set_option maxRecDepth 100000
noncomputable section
def va(r:Rec):Bool:= !(jI r)
def qc(r:Rec):Bool:=bz 20 (Int.ofNat r.ei.length)||(bz 60 (Int.ofNat r.ex.length)|| !(jI r))
namespace YI
def X:=dp [xg.c] 6
def f0(x:Rec):R:=aU (tJ x) (aq (!(jI x)))
theorem run(x):ca X (dG f51) .d (cS [2]) [2] [] [eA .jt x]=f0 x:=aa
theorem aw(r:Rec)(h:tJ r=true):f0 r=aq (va r):=encode.bD h
def c:Ct:=⟨51,cj (A1 (aR .jt) λx=>(tJ x,.bool (va x))),ir call51 func51 (a1 λx e_=>(run x).trans (aw x e_))⟩
end YI
namespace Sy
def X:=dp [YI.c] 19
def g:ah (AV U El)->Option (Bool×AV U El)
 |[.au .jt l,.fn 51 [] []]=>some (bU l.length 90000&&List.all l tJ,.int .i64 (dM va 0 l))
 |_=>none
def c:Ct:=⟨34,cj g,ir call34 func34 λvs v h e=>by
 unfold g at h;split at h;cases h;exact KC (X:=X) e aa (λ_ _ _=>aa) aa;cases h⟩
end Sy
namespace Sz
def X:=dp [Sy.c] 9
def g:ah (AV U El)->Option (Bool×AV U El)
 |[.au .jt l,.fn 51 [] []]=>some (bU l.length 90000&&List.all l tJ,.bool (List.any l va))
 |_=>none
def c:Ct:=⟨6,cj g,ir call6 func6 λvs v h e=>by
 unfold g at h;split at h;cases h;exact cont (X:=X) e aa;cases h⟩
end Sz
def setAt(n:Net)(s:cO)(r:Rec):cO:=⟨s.fH,s.gw,s.dH.set (fu n r.el).toNat r.et,s.ik⟩
def kD(n:Net)(l:ah cK)(p:ah cT):cO->ah Rec->Option (ah cO)
 |_,[]=>some []
 |s,r::es=>bif r.ek==2 then(bif bz (fu n r.el) 0 then none else kD n l p (setAt n s r) es)
  else bif r.ek==1 then(bif(di.P n l p s r.ei r.es).2.2 !=0 then none else bif !(fO n (di.P n l p s r.ei r.es).1)then none
   else(kD n l p (di.P n l p s r.ei r.es).1 es).map ((di.P n l p s r.ei r.es).1:: ·))else kD n l p s es
theorem pq(n:Net)(l:ah cK)(p:ah cT)(s:cO)(r:Rec)(es:ah Rec):kD n l p s (r::es)=bif r.ek==2 then(bif bz (fu n r.el) 0 then none else kD n l p (setAt n s r) es)
 else bif r.ek==1 then(bif(di.P n l p s r.ei r.es).2.2 !=0 then none else bif !(fO n (di.P n l p s r.ei r.es).1)then none
  else(kD n l p (di.P n l p s r.ei r.es).1 es).map ((di.P n l p s r.ei r.es).1:: ·))else kD n l p s es:=rfl
theorem HU{n:Net}{s:ah UInt8}(h:bz (fu n s) 0=false):∃j:Nat,fu n s=(j:Int)/\j<n.cD.length:=by
 have h:=oD h;rcases qh (uQ s) n.cD 0 with e|e
 ·exact absurd h (by unfold fu;omega)
 ·exact⟨(fu n s).toNat,by unfold fu;omega,by unfold fu;omega⟩
theorem pc{n:Net}{s:cO}(hb:eR n=true)(h:fO n s=true):uK s=true:=by obtain⟨h1,h2⟩:=kF hb;obtain⟨a,b,c,d⟩:=km h;exact eN (c_ ab) (eN (c_ ab) (eN (c_ ab) (c_ ab)))
theorem HJ{n:Net}{s:cO}{r:Rec}(h:uK s=true):uK (setAt n s r)=true:=by simp only[uK,setAt,List.length_set]at h⊢;exact h
def V6(out:ah cO)(o:Option (ah cO)):R:=some (.bP [.au .state (o.elim [] (out++·)),.bool o.isSome],[])
theorem Nk(out:ah cO)(x:cO)(o:Option (ah cO)):V6 (out++[x]) o=V6 out (o.map (x:: ·)):=by
 cases o with
 |none=>rfl
 |some l=>exact congrArg (λz:ah cO=>(some (AV.bP [.au .state z,.bool true],[]):R)) (b_ out [x] l)
def BC(t:pS):Bool:= !(s6 ⟨t.tn,t.tk⟩)&&(!(BR t.ts t.tl [])&&(bg (Int.ofNat t.tl.length) 6&&(eR ⟨t.tn,t.tk⟩&&(qG t.ts&&(lx t.tl&&fO ⟨t.tn,t.tk⟩ ⟨t.tv,t.tp,t.tt,t.to⟩)))))
def Ko(t:pS)(es:ah Rec):Bool:=yb (gm ⟨t.tn,t.tk⟩=true/\eR ⟨t.tn,t.tk⟩=true/\fO ⟨t.tn,t.tk⟩ ⟨t.tv,t.tp,t.tt,t.to⟩=true/\(∀r∈es,tJ r=true)/\es.length<=1000)
def runT(t:pS)(es:ah Rec):Option (ah cO):=kD ⟨t.tn,t.tk⟩ t.ts t.tl ⟨t.tv,t.tp,t.tt,t.to⟩ es
def Kp(t:pS)(es:ah Rec):ah cO:=(runT t es).elim [] id
def Nj(t:pS)(es:ah Rec):Bool:=(runT t es).isSome
namespace yO
variable(gW:bn U El)(t:pS)(es:ah Rec)(jW:bn U El)(lA:ah cO)
def X:Ctx U El:=⟨E,iH,zeros,eqs,lr [(33,yl.c.s),(40,tG.c.s),(41,di.sp)],100000,77,js [],lO [(39,sY FV.sp)],λ_=>none⟩
def bd:=dG Tryz.f9
def fM:Norm U:=⟨[],[4,5],[],[(4,.state)],[],[],[]⟩
def RR:bn U El:=λst=>cN fM st (ch [4,5] [])
def eE:Norm U:=⟨[(6,.state)],[6],[6],[],[],[],[]⟩
def dI:Norm U:=⟨[(6,.state)],[2,6,7,17,18,19],[6,2,7],[],[],[],[(2,0,.node),(2,1,.link),(2,2,.dj),(2,3,.eG),(2,4,.int),(2,5,.int),(2,6,.int),(2,7,.bool),(7,0,.int),(7,1,.int),(7,2,.int),(7,3,.bool)]⟩
def an:gb U:=(.seq none .d (.seq none .d (.seq none .d (.seq (some eE) (.seq none .d (.block (.loop dI (.seq none .d (.seq none .d (.seq (some dI) (.block (.seq none .d (.seq none .d (.block (.seq none .d (.cond .d (.seq none .d (.cond (.seq none .d (.seq (some (⟨[(6,.state)],[2,6,7,11,17,18,19],[6,2,7,11],[],[],[],[(2,0,.node),(2,1,.link),(2,2,.dj),(2,3,.eG),(2,4,.int),(2,5,.int),(2,6,.int),(2,7,.bool),(7,0,.int),(7,1,.int),(7,2,.int),(7,3,.bool),(11,0,.int),(11,1,.int),(11,2,.int),(11,3,.bool)]⟩)) .d .d)) .d)))))))) .d)))))) .d))))
abbrev Y1:=(ah cO)->R
abbrev Y2:=(ah cO)->(ah Rec)->Int->Int->(ah Node)->(ah cJ)->(ah cK)->(ah cT)->(ah Int)->(ah Int)->(ah Int)->(ah Bool)->(ah Int)->(ah Int)->(ah Int)->(ah Bool)->R
abbrev Y3:=(ah cO)->(ah Rec)->Int->Int->(ah Node)->(ah cJ)->(ah cK)->(ah cT)->(ah Int)->(ah Int)->(ah Int)->(ah Bool)->(ah Int)->(ah Int)->(ah Int)->(ah Bool)->R
abbrev Y4:=(ah cO)->(ah Rec)->Int->Int->(ah Node)->(ah cJ)->(ah cK)->(ah cT)->(ah Int)->(ah Int)->(ah Int)->(ah Bool)->(ah Int)->(ah Int)->(ah Int)->(ah Bool)->(ah Int)->(ah Int)->(ah Int)->(ah Bool)->R
def fY(cB:ah Rec)(dB aB:Int)(dA:ah Node)(fA:ah cJ)(mA:ah cK)(nA:ah cT)(rA sA tA:ah Int)(uA:ah Bool)(gA hA iA:ah Int)(jA:ah Bool):St U El:=⟨[(2,.ptr 2 0),(6,.cf 6),(7,.ptr 7 0),(17,.au .jt cB),(18,.int .i64 dB),(19,.int .i64 aB)],[(6,.rows .state lA),(2,.box 0 [.au .node dA,.au .link fA,.au .dj mA,.au .eG nA,.au .int rA,.au .int sA,.au .int tA,.au .bool uA]),(7,.box 0 [.au .int gA,.au .int hA,.au .int iA,.au .bool jA])]⟩
def cX(k2:Y2):R:=aU (uK (⟨t.tv,t.tp,t.tt,t.to⟩:cO)) (k2 ([]:ah cO) es (Int.ofNat es.length) (0:Int) t.tn t.tk t.ts t.tl t.tv t.tp t.tt t.to (cO.fH (⟨t.tv,t.tp,t.tt,t.to⟩:cO)) (cO.gw (⟨t.tv,t.tp,t.tt,t.to⟩:cO)) (cO.dH (⟨t.tv,t.tp,t.tt,t.to⟩:cO)) (cO.ik (⟨t.tv,t.tp,t.tt,t.to⟩:cO)))
def dR:R:=some (.bP [.au .state lA,.bool true],[])
def dQ(cB:ah Rec)(dB aB:Int)(dA:ah Node)(fA:ah cJ)(mA:ah cK)(nA:ah cT)(rA sA tA:ah Int)(uA:ah Bool)(gA hA iA:ah Int)(jA:ah Bool)(k1:Y1)(k3:Y3)(k4:Y4):R:=ai (bz aB dB) (aU (dV aB cB.length) (ai ((cB.getD aB.toNat dh).ek==(2:Int)) (aU (gm (⟨dA,fA⟩:Net)) (ai (bz (fu (⟨dA,fA⟩:Net) ((cB.getD aB.toNat dh).el)) (0:Int)) (some ((.bP [(.au .state ([]:ah cO)),.bool false]),[])) (aU (uK (⟨gA,hA,iA,jA⟩:cO)) (aU (dV (fu (⟨dA,fA⟩:Net) ((cB.getD aB.toNat dh).el)) (List.length (cO.dH (⟨gA,hA,iA,jA⟩:cO)))) (aU (lU (Int.toNat (fu (⟨dA,fA⟩:Net) ((cB.getD aB.toNat dh).el))) (List.length (cO.dH (⟨gA,hA,iA,jA⟩:cO)))&&true) (k3 lA cB dB aB dA fA mA nA rA sA tA uA (cO.fH (⟨gA,hA,iA,jA⟩:cO)) (cO.gw (⟨gA,hA,iA,jA⟩:cO)) (List.set (cO.dH (⟨gA,hA,iA,jA⟩:cO)) (Int.toNat (fu (⟨dA,fA⟩:Net) ((cB.getD aB.toNat dh).el))) ((cB.getD aB.toNat dh).et)) (cO.ik (⟨gA,hA,iA,jA⟩:cO)))))))) (ai ((cB.getD aB.toNat dh).ek==(1:Int)) (aU ((gm (⟨dA,fA⟩:Net)&&bU (List.length ((cB.getD aB.toNat dh).ei)) 90000)) (ai (((di.P (⟨dA,fA⟩:Net) mA nA (⟨gA,hA,iA,jA⟩:cO) ((cB.getD aB.toNat dh).ei) ((cB.getD aB.toNat dh).es)).2.2) !=(0:Int)) (some ((.bP [(.au .state ([]:ah cO)),.bool false]),[])) (aU ((gm (⟨dA,fA⟩:Net)&&eR (⟨dA,fA⟩:Net))) (ai (!(fO (⟨dA,fA⟩:Net) ((di.P (⟨dA,fA⟩:Net) mA nA (⟨gA,hA,iA,jA⟩:cO) ((cB.getD aB.toNat dh).ei) ((cB.getD aB.toNat dh).es)).1))) (some ((.bP [(.au .state ([]:ah cO)),.bool false]),[])) (k4 lA cB dB aB dA fA mA nA rA sA tA uA gA hA iA jA (((di.P (⟨dA,fA⟩:Net) mA nA (⟨gA,hA,iA,jA⟩:cO) ((cB.getD aB.toNat dh).ei) ((cB.getD aB.toNat dh).es)).1).fH) (((di.P (⟨dA,fA⟩:Net) mA nA (⟨gA,hA,iA,jA⟩:cO) ((cB.getD aB.toNat dh).ei) ((cB.getD aB.toNat dh).es)).1).gw) (((di.P (⟨dA,fA⟩:Net) mA nA (⟨gA,hA,iA,jA⟩:cO) ((cB.getD aB.toNat dh).ei) ((cB.getD aB.toNat dh).es)).1).dH) (((di.P (⟨dA,fA⟩:Net) mA nA (⟨gA,hA,iA,jA⟩:cO) ((cB.getD aB.toNat dh).ei) ((cB.getD aB.toNat dh).es)).1).ik)))))) (k3 lA cB dB aB dA fA mA nA rA sA tA uA gA hA iA jA)))) (k1 lA)
def gf(cB:ah Rec)(dB aB:Int)(dA:ah Node)(fA:ah cJ)(mA:ah cK)(nA:ah cT)(rA sA tA:ah Int)(uA:ah Bool)(gA hA iA:ah Int)(jA:ah Bool)(k2:Y2):R:=k2 lA cB dB (i64.wrap (aB+(1:Int))) dA fA mA nA rA sA tA uA gA hA iA jA
def l_(cB:ah Rec)(dB aB:Int)(dA:ah Node)(fA:ah cJ)(mA:ah cK)(nA:ah cT)(rA sA tA:ah Int)(uA:ah Bool)(gA hA iA:ah Int)(jA:ah Bool)(vA wA xA:ah Int)(yA:ah Bool)(k3:Y3):R:=aU (uK (⟨vA,wA,xA,yA⟩:cO)) (aU (bU ((List.length lA+List.length ([(⟨(cO.fH (⟨vA,wA,xA,yA⟩:cO)),(cO.gw (⟨vA,wA,xA,yA⟩:cO)),(cO.dH (⟨vA,wA,xA,yA⟩:cO)),(cO.ik (⟨vA,wA,xA,yA⟩:cO))⟩:cO)]:ah cO))*96) 140737488355328&&bU (List.length lA+List.length ([(⟨(cO.fH (⟨vA,wA,xA,yA⟩:cO)),(cO.gw (⟨vA,wA,xA,yA⟩:cO)),(cO.dH (⟨vA,wA,xA,yA⟩:cO)),(cO.ik (⟨vA,wA,xA,yA⟩:cO))⟩:cO)]:ah cO)) 9223372036854775807) (k3 (lA++([(⟨(cO.fH (⟨vA,wA,xA,yA⟩:cO)),(cO.gw (⟨vA,wA,xA,yA⟩:cO)),(cO.dH (⟨vA,wA,xA,yA⟩:cO)),(cO.ik (⟨vA,wA,xA,yA⟩:cO))⟩:cO)]:ah cO)) cB dB aB dA fA mA nA rA sA tA uA vA wA xA yA))
abbrev ex:=kf X bd an RR
abbrev it:=nO X bd an RR
def gu:=it dI [1,1,1,0,1,0,0] (cu 0 (bG eE gW) nE)
def cQ:=ex [1,1,1,1] RR nE
def mz(iP:bn U El):=ex [1,1,1,0,1,0,0,1,1,1] (bG dI iP) (cu 0 (bG eE gW) nE)
def pH(oV:bn U El):=ex [1,1,1,0,1,0,0,1,1,0,0,1,1,0,1,1,1,0,1,1] (bG dI oV) (cu 2 (bG dI oV) (cu 1 (bG dI oV) (cu 0 (bG eE gW) nE)))
def f1:R:=dR lA
def f3(k2:Y2)(lA:ah cO)(cB:ah Rec)(dB aB:Int)(dA:ah Node)(fA:ah cJ)(mA:ah cK)(nA:ah cT)(rA sA tA:ah Int)(uA:ah Bool)(gA hA iA:ah Int)(jA:ah Bool):R:=gf lA cB dB aB dA fA mA nA rA sA tA uA gA hA iA jA k2
def f4(k2:Y2)(lA:ah cO)(cB:ah Rec)(dB aB:Int)(dA:ah Node)(fA:ah cJ)(mA:ah cK)(nA:ah cT)(rA sA tA:ah Int)(uA:ah Bool)(gA hA iA:ah Int)(jA:ah Bool)(vA wA xA:ah Int)(yA:ah Bool):R:=l_ lA cB dB aB dA fA mA nA rA sA tA uA gA hA iA jA vA wA xA yA (f3 k2)
def f2:Nat->Y2
 |0=>λ_ _ _ _ _ _ _ _ _ _ _ _ _ _ _ _=>none
 |n+1=>λlA cB dB aB dA fA mA nA rA sA tA uA gA hA iA jA=>dQ lA cB dB aB dA fA mA nA rA sA tA uA gA hA iA jA f1 (f3 (f2 n)) (f4 (f2 n))
def f0:R:=cX t es (f2 100000)
theorem E1:(λlA=>(hid cQ) ⟨[(6,.cf 6)],[(6,.rows .state lA)]⟩)=f1:=by funext lA;refine cm ?_;unfold f1;exact aa
theorem E3(k2:Y2)(h2:(λlA cB dB aB dA fA mA nA rA sA tA uA gA hA iA jA=>jW (fY lA cB dB aB dA fA mA nA rA sA tA uA gA hA iA jA))=k2):(λlA cB dB aB dA fA mA nA rA sA tA uA gA hA iA jA=>(hid (mz (hid cQ) jW)) ⟨[(2,.ptr 2 0),(6,.cf 6),(7,.ptr 7 0),(17,.au .jt cB),(18,.int .i64 dB),(19,.int .i64 aB)],[(6,.rows .state lA),(2,.box 0 [.au .node dA,.au .link fA,.au .dj mA,.au .eG nA,.au .int rA,.au .int sA,.au .int tA,.au .bool uA]),(7,.box 0 [.au .int gA,.au .int hA,.au .int iA,.au .bool jA])]⟩)=f3 k2:=by subst h2;funext lA cB dB aB dA fA mA nA rA sA tA uA gA hA iA jA;refine cm ?_;unfold f3;exact aa
theorem E4(k2:Y2)(h2:(λlA cB dB aB dA fA mA nA rA sA tA uA gA hA iA jA=>jW (fY lA cB dB aB dA fA mA nA rA sA tA uA gA hA iA jA))=k2):(λlA cB dB aB dA fA mA nA rA sA tA uA gA hA iA jA vA wA xA yA=>(hid (pH (hid cQ) (hid (mz (hid cQ) jW)))) ⟨[(2,.ptr 2 0),(6,.cf 6),(7,.ptr 7 0),(11,.ptr 11 0),(17,.au .jt cB),(18,.int .i64 dB),(19,.int .i64 aB)],[(6,.rows .state lA),(2,.box 0 [.au .node dA,.au .link fA,.au .dj mA,.au .eG nA,.au .int rA,.au .int sA,.au .int tA,.au .bool uA]),(7,.box 0 [.au .int gA,.au .int hA,.au .int iA,.au .bool jA]),(11,.box 0 [.au .int vA,.au .int wA,.au .int xA,.au .bool yA])]⟩)=f4 k2:=by subst h2;funext lA cB dB aB dA fA mA nA rA sA tA uA gA hA iA jA vA wA xA yA;refine cm ?_;unfold f4;rw[<-E3 jW _ rfl];exact aa
theorem T2:∀n,(λlA cB dB aB dA fA mA nA rA sA tA uA gA hA iA jA=>gu (hid cQ) n (fY lA cB dB aB dA fA mA nA rA sA tA uA gA hA iA jA))=f2 n:=by
 intro n;induction n with
 |zero=>rfl
 |succ n ih=>funext lA cB dB aB dA fA mA nA rA sA tA uA gA hA iA jA;rw[f2];rw[<-E1,<-E3 (gu (hid cQ) n) _ ih,<-E4 (gu (hid cQ) n) _ ih];exact aa
theorem H2:(λlA cB dB aB dA fA mA nA rA sA tA uA gA hA iA jA=>hid (gu (hid cQ) 100000) (fY lA cB dB aB dA fA mA nA rA sA tA uA gA hA iA jA))=f2 100000:=by rw[cM];exact(T2 100000)
theorem run:ca X bd an fM [4,5] [] [eA .rp t,.au .jt es]=f0 t es:=by unfold f0;rw[<-H2];exact aa
theorem h_(hn:gm ⟨t.tn,t.tk⟩=true)(hb:eR ⟨t.tn,t.tk⟩=true)(he:∀r∈es,tJ r=true)(hl:es.length<=1000): ∀(m i:Nat) (out:ah cO) (s:cO),es.length<m+i->i<=es.length->out.length<=i->s.dH.length=t.tk.length->uK s=true->f2 m out es (Int.ofNat es.length) (i:Int) t.tn t.tk t.ts t.tl t.tv t.tp t.tt t.to s.fH s.gw s.dH s.ik=V6 out (kD ⟨t.tn,t.tk⟩ t.ts t.tl s (es.drop i)):=by
 intro m;induction m with
 |zero=>intro i out s h1 h2;omega
 |succ m ih=>
  intro i out s h1 h2 h3 h4 h5;show dQ out es (Int.ofNat es.length) (i:Int) t.tn t.tk t.ts t.tl t.tv t.tp t.tt t.to s.fH s.gw s.dH s.ik f1 (f3 (f2 m)) (f4 (f2 m))=_;unfold dQ;by_cases hi:i<es.length
  ·have e:List.getD es (Int.toNat (i:Int)) dh=es[i]:=by rw[toNat_nat,bQ hi]
   have hr:=he _ (bW hi)
   refine(dW (eh (by simp;omega))).trans ((encode.bD (c9 hi)).trans ?_)
   rw[e,fK hi,pq]
   generalize es[i]=r at hr⊢;cases e2:r.ek==(2:Int)with
   |true=>
    refine(dW rfl).trans ((encode.bD hn).trans ?_)
    cases e3:bz (fu ⟨t.tn,t.tk⟩ r.el) 0 with
    |true=>exact(dW rfl).trans rfl
    |false=>
     obtain⟨j,hj,hk⟩:=HU e3;have hk:j<s.dH.length:=by rw[h4];exact hk
     have g:=ih (i+1) out (setAt ⟨t.tn,t.tk⟩ s r) ab hi ab (by simpa[setAt]using h4) (HJ h5)
     refine(bT rfl).trans ((encode.bD h5).trans ?_)
     unfold setAt at g;rw[hj]at g⊢;rw[toNat_nat]at g⊢;refine(encode.bD (c9 hk)).trans ((encode.bD (c2 (pw hk) rfl)).trans ?_)
     show f2 m out es (Int.ofNat es.length) (i64.wrap ((i:Int)+1)) _ _ _ _ _ _ _ _ _ _ _ _=_;rw[eY i ab]
     refine g.trans ?_;unfold setAt;rw[hj,toNat_nat]
     rfl
   |false=>
    refine(bT rfl).trans ?_;cases e4:r.ek==(1:Int)with
    |false=>
     refine(bT rfl).trans ?_;show f2 m out es (Int.ofNat es.length) (i64.wrap ((i:Int)+1)) _ _ _ _ _ _ _ _ _ _ _ _=_;rw[eY i ab]
     exact ih (i+1) out s ab hi ab h4 h5
    |true=>
     refine(dW rfl).trans ((encode.bD (eN hn (aZ.1 hr).1)).trans ?_)
     show ai ((di.P ⟨t.tn,t.tk⟩ t.ts t.tl s r.ei r.es).2.2 !=0) _ _=_;generalize hq:di.P ⟨t.tn,t.tk⟩ t.ts t.tl s r.ei r.es=q;cases e5:q.2.2 !=(0:Int)with
     |true=>exact(dW rfl).trans rfl
     |false=>
      refine(bT rfl).trans ((encode.bD (eN hn hb)).trans ?_)
      cases e6:fO ⟨t.tn,t.tk⟩ q.1 with
      |false=>exact(dW rfl).trans rfl
      |true=>
       have k:=pc hb e6;have g:=ih (i+1) (out++[q.1]) q.1 ab hi (by simp;omega) (km e6).2.2.1 k;refine(bT rfl).trans ?_;show l_ out es (Int.ofNat es.length) (i:Int) t.tn t.tk t.ts t.tl t.tv t.tp t.tt t.to s.fH s.gw s.dH s.ik q.1.fH q.1.gw q.1.dH q.1.ik (f3 (f2 m))=_;unfold l_;refine(encode.bD k).trans ((encode.bD (xq ab)).trans ?_)
       show f2 m (out++[q.1]) es (Int.ofNat es.length) (i64.wrap ((i:Int)+1)) _ _ _ _ _ _ _ _ _ _ _ _=_;rw[eY i ab]
       exact g.trans (Nk _ _ _)
  ·have:i=es.length:=ab
   subst this;refine(bT (dF ae)).trans ?_;rw[bH]
   exact congrArg (λz:ah cO=>(some (AV.bP [.au .state z,.bool true],[]):R)) (cU out).symm
theorem aw(h:Ko t es=true):f0 t es=some (.bP [.au .state (Kp t es),.bool (Nj t es)],[]):=by
 obtain⟨hn,hb,hs,he,hl⟩:=eP.1 h;refine(encode.bD (pc hb hs)).trans ?_;refine(h_ t es hn hb he hl 100000 0 [] ⟨t.tv,t.tp,t.tt,t.to⟩ ab ab ae (km hs).2.2.1 (pc hb hs)).trans ?_;unfold Kp Nj runT;rw[fq]
 cases kD ⟨t.tn,t.tk⟩ t.ts t.tl ⟨t.tv,t.tp,t.tt,t.to⟩ es with
 |none=>rfl
 |some l=>rfl
theorem ok:bp prog X:=fV lq (yj yl.c.ok (yj tG.c.ok (yj di.du KE))) pD
def c:Ct:=⟨9,cj (A2 (aR .rp) (bL .jt) λt es=>(Ko t es,(.bP [.au .state (Kp t es),.bool (Nj t es)]))),HI (X:=X) ok (jx _ (Ja (kU ok FV.du) MS)) call9 func9 (a2 λt es e_=>(run t es).trans (aw t es e_))⟩
end yO
def BI(n:Net)(l:ah cK)(p:ah cT)(s:cO)(es:ah Rec):Bool:=yb (gm n=true/\eR n=true/\qG l=true/\lx p=true/\fO n s=true/\(∀r∈es,jI r=true)/\es.length<=1000/\(kD n l p s es).isSome=true)
def sB(n:Net)(l:ah cK)(p:ah cT)(s:cO)(es:ah Rec):ah cO:=(kD n l p s es).elim [] id
def KR(n:Net)(l:ah cK)(p:ah cT)(s:cO)(es:ah Rec):Int:=0
def YH(out:ah cO):R:=some (.bP [.au .state out,.int .i64 0],[])
theorem OO{es:ah Rec}(h:∀r∈es,jI r=true):List.any es va=false:=by
 rw[gC]
 intro r hr;simp[va,h r hr]
theorem Jb{n:Net}{s:ah UInt8}{j:Nat}(hb:eR n=true)(hj:fu n s=(j:Int)):(bif eR n then(bif bz (fu n s) 0 then 9 else 0)else 1:Int)=0/\(bif eR n then(bif bz (fu n s) 0 then 0 else fu n s)else 0:Int)=(j:Int):=by
 rw[hb,hj,show bz (j:Int) 0=false from dF ab]
 exact⟨rfl,rfl⟩
namespace replay
variable(s1:ah cK)(l2:ah cT)(r4:ah Rec)(aA:ah Node)(n:Net)(l:ah cK)(r:ah cT)(s:cO)(es:ah Rec)(cA:ah cO)(iP:bn U El)
def X:=dp [Sz.c,⟨41,di.sp,di.du⟩,nS.c,xi.c,valid.c,wM.c,u7.c,Pb.c] 109
def bd:=dG f18
def fM:Norm U:=⟨[],[10,11],[],[(10,.state)],[],[],[]⟩
def RR:bn U El:=λst=>cN fM st (ch [10,11] [])
def dI:Norm U:=⟨[(13,.state)],[13],[13],[],[],[],[]⟩
def jY:Norm U:=⟨[(13,.state)],[1,2,5,8,13,54,55,56],[13,5,8],[],[],[],[(5,0,.node),(5,1,.link),(8,0,.int),(8,1,.int),(8,2,.int),(8,3,.bool)]⟩
def an:gb U:=(.seq none .d (.seq none .d (.seq (some (⟨[],[1,2,4,5,8],[5,8],[],[],[],[(5,0,.node),(5,1,.link),(8,0,.int),(8,1,.int),(8,2,.int),(8,3,.bool)]⟩)) .d (.seq none .d (.seq none .d (.seq (some dI) (.seq none .d (.block (.loop jY (.seq none .d (.seq none .d (.seq (some jY) .d .d)))))) .d))))))
abbrev Y1:=(ah cK)->(ah cT)->(ah Rec)->(ah Node)->(ah cJ)->(ah Int)->(ah Int)->(ah Int)->(ah Bool)->R
abbrev Y2:=(ah cO)->R
abbrev Y3:=(ah cK)->(ah cT)->(ah cO)->(ah Rec)->Int->Int->(ah Node)->(ah cJ)->(ah Int)->(ah Int)->(ah Int)->(ah Bool)->R
abbrev Y4:=(ah cK)->(ah cT)->(ah cO)->(ah Rec)->Int->Int->(ah Node)->(ah cJ)->(ah Int)->(ah Int)->(ah Int)->(ah Bool)->R
def nz(bB:ah Rec)(eB zA:Int)(aA:ah Node)(bA:ah cJ)(oA pA kA:ah Int)(qA:ah Bool):St U El:=⟨[(1,.au .dj s1),(2,.au .eG l2),(5,.ptr 5 0),(8,.ptr 8 0),(13,.cf 13),(54,.au .jt bB),(55,.int .i64 eB),(56,.int .i64 zA)],[(13,.rows .state cA),(5,.box 0 [.au .node aA,.au .link bA]),(8,.box 0 [.au .int oA,.au .int pA,.au .int kA,.au .bool qA])]⟩
def cX(k1:Y1):R:=aU (gm n) (ai (!(eR n)) (some ((.bP [(.au .state ([]:ah cO)),.int .i64 (1:Int)]),[])) (ai (!(qG l)) (some ((.bP [(.au .state ([]:ah cO)),.int .i64 (1:Int)]),[])) (ai (!(lx r)) (some ((.bP [(.au .state ([]:ah cO)),.int .i64 (1:Int)]),[])) (aU (gm n) (ai (!(eR n&&fO n s)) (some ((.bP [(.au .state ([]:ah cO)),.int .i64 (1:Int)]),[])) (aU (bU es.length 90000&&List.all es tJ) (ai (List.any es va) (some ((.bP [(.au .state ([]:ah cO)),.int .i64 (1:Int)]),[])) (ai (bz (10000:Int) (Int.ofNat es.length)) (some ((.bP [(.au .state ([]:ah cO)),.int .i64 (4:Int)]),[])) (k1 l r es n.ct n.cD s.fH s.gw s.dH s.ik)))))))))
def dR(bA:ah cJ)(oA pA kA:ah Int)(qA:ah Bool)(k3:Y3):R:=aU (bU kA.length 90000) (k3 s1 l2 ([]:ah cO) r4 (Int.ofNat r4.length) (0:Int) aA bA oA pA (kA) qA)
def dQ:R:=some ((.bP [.au .state cA,.int .i64 (0:Int)]),[])
def gf(bB:ah Rec)(eB zA:Int)(aA:ah Node)(bA:ah cJ)(oA pA kA:ah Int)(qA:ah Bool)(k2:Y2)(k4:Y4):R:=ai (bz zA eB) (aU (dV zA bB.length) (ai ((bB.getD zA.toNat dh).ek==(2:Int)) (aU (gm (⟨aA,bA⟩:Net)) (ai (((bif eR (⟨aA,bA⟩:Net)then(bif bz (fu (⟨aA,bA⟩:Net) ((bB.getD zA.toNat dh).el)) 0 then 9 else 0)else 1)) !=(0:Int)) (some ((.bP [(.au .state ([]:ah cO)),(.int .i64 ((bif eR (⟨aA,bA⟩:Net)then(bif bz (fu (⟨aA,bA⟩:Net) ((bB.getD zA.toNat dh).el)) 0 then 9 else 0)else 1)))]),[])) (aU (bU kA.length 90000) (aU (dV ((bif eR (⟨aA,bA⟩:Net)then(bif bz (fu (⟨aA,bA⟩:Net) ((bB.getD zA.toNat dh).el)) 0 then 0 else fu (⟨aA,bA⟩:Net) ((bB.getD zA.toNat dh).el))else 0)) (List.length (kA))) (aU (lU (Int.toNat ((bif eR (⟨aA,bA⟩:Net)then(bif bz (fu (⟨aA,bA⟩:Net) ((bB.getD zA.toNat dh).el)) 0 then 0 else fu (⟨aA,bA⟩:Net) ((bB.getD zA.toNat dh).el))else 0))) (List.length (kA))&&true) (k4 s1 l2 cA bB eB zA aA bA oA pA (List.set (kA) (Int.toNat ((bif eR (⟨aA,bA⟩:Net)then(bif bz (fu (⟨aA,bA⟩:Net) ((bB.getD zA.toNat dh).el)) 0 then 0 else fu (⟨aA,bA⟩:Net) ((bB.getD zA.toNat dh).el))else 0))) ((bB.getD zA.toNat dh).et)) qA)))))) (ai ((bB.getD zA.toNat dh).ek==(1:Int)) (aU ((gm (⟨aA,bA⟩:Net)&&bU (List.length ((bB.getD zA.toNat dh).ei)) 90000)) (ai (((di.P (⟨aA,bA⟩:Net) s1 l2 (⟨oA,pA,kA,qA⟩:cO) ((bB.getD zA.toNat dh).ei) ((bB.getD zA.toNat dh).es)).2.2) !=(0:Int)) (some ((.bP [(.au .state ([]:ah cO)),(.int .i64 ((di.P (⟨aA,bA⟩:Net) s1 l2 (⟨oA,pA,kA,qA⟩:cO) ((bB.getD zA.toNat dh).ei) ((bB.getD zA.toNat dh).es)).2.2))]),[])) (aU (bU ((List.length cA+List.length ([((di.P (⟨aA,bA⟩:Net) s1 l2 (⟨oA,pA,kA,qA⟩:cO) ((bB.getD zA.toNat dh).ei) ((bB.getD zA.toNat dh).es)).1)]:ah cO))*96) 140737488355328&&bU (List.length cA+List.length ([((di.P (⟨aA,bA⟩:Net) s1 l2 (⟨oA,pA,kA,qA⟩:cO) ((bB.getD zA.toNat dh).ei) ((bB.getD zA.toNat dh).es)).1)]:ah cO)) 9223372036854775807) (k4 s1 l2 (cA++([((di.P (⟨aA,bA⟩:Net) s1 l2 (⟨oA,pA,kA,qA⟩:cO) ((bB.getD zA.toNat dh).ei) ((bB.getD zA.toNat dh).es)).1)]:ah cO)) bB eB zA aA bA (((di.P (⟨aA,bA⟩:Net) s1 l2 (⟨oA,pA,kA,qA⟩:cO) ((bB.getD zA.toNat dh).ei) ((bB.getD zA.toNat dh).es)).1).fH) (((di.P (⟨aA,bA⟩:Net) s1 l2 (⟨oA,pA,kA,qA⟩:cO) ((bB.getD zA.toNat dh).ei) ((bB.getD zA.toNat dh).es)).1).gw) (((di.P (⟨aA,bA⟩:Net) s1 l2 (⟨oA,pA,kA,qA⟩:cO) ((bB.getD zA.toNat dh).ei) ((bB.getD zA.toNat dh).es)).1).dH) (((di.P (⟨aA,bA⟩:Net) s1 l2 (⟨oA,pA,kA,qA⟩:cO) ((bB.getD zA.toNat dh).ei) ((bB.getD zA.toNat dh).es)).1).ik))))) (k4 s1 l2 cA bB eB zA aA bA oA pA kA qA)))) (k2 cA)
def l_(bB:ah Rec)(eB zA:Int)(aA:ah Node)(bA:ah cJ)(oA pA kA:ah Int)(qA:ah Bool)(k3:Y3):R:=k3 s1 l2 cA bB eB (i64.wrap (zA+(1:Int))) aA bA oA pA kA qA
abbrev ex:=kf X bd an RR
abbrev it:=nO X bd an RR
def nU:=it jY [1,1,1,1,1,0,1,0,0] (cu 1 (bG dI iP) nE)
def cQ:=ex [1,1,1] RR nE
def ib:=ex [1,1,1,1,1,1] RR nE
def pH(oV:bn U El):=ex [1,1,1,1,1,0,1,0,0,1,1,1] (bG jY oV) (cu 1 (bG dI iP) nE)
def f2:R:=dQ cA
def f4(k3:Y3)(s1:ah cK)(l2:ah cT)(cA:ah cO)(bB:ah Rec)(eB zA:Int)(aA:ah Node)(bA:ah cJ)(oA pA kA:ah Int)(qA:ah Bool):R:=l_ s1 l2 cA bB eB zA aA bA oA pA kA qA k3
def f3:Nat->Y3
 |0=>λ_ _ _ _ _ _ _ _ _ _ _ _=>none
 |n+1=>λs1 l2 cA bB eB zA aA bA oA pA kA qA=>gf s1 l2 cA bB eB zA aA bA oA pA kA qA f2 (f4 (f3 n))
def f1(bA:ah cJ)(oA pA kA:ah Int)(qA:ah Bool):R:=dR s1 l2 r4 aA bA oA pA kA qA (f3 100000)
def f0:R:=cX n l r s es f1
theorem E2:(λcA=>(hid ib) ⟨[(13,.cf 13)],[(13,.rows .state cA)]⟩)=f2:=by funext cA;refine cm ?_;unfold f2;exact aa
theorem E4(pf:bn U El)(k3:Y3)(h3:(λs1 l2 cA bB eB zA aA bA oA pA kA qA=>pf (nz s1 l2 cA bB eB zA aA bA oA pA kA qA))=k3):(λs1 l2 cA bB eB zA aA bA oA pA kA qA=>(hid (pH (hid ib) pf)) ⟨[(1,.au .dj s1),(2,.au .eG l2),(5,.ptr 5 0),(8,.ptr 8 0),(13,.cf 13),(54,.au .jt bB),(55,.int .i64 eB),(56,.int .i64 zA)],[(13,.rows .state cA),(5,.box 0 [.au .node aA,.au .link bA]),(8,.box 0 [.au .int oA,.au .int pA,.au .int kA,.au .bool qA])]⟩)=f4 k3:=by subst h3;funext s1 l2 cA bB eB zA aA bA oA pA kA qA;refine cm ?_;unfold f4;exact aa
theorem T3:∀n,(λs1 l2 cA bB eB zA aA bA oA pA kA qA=>nU (hid ib) n (nz s1 l2 cA bB eB zA aA bA oA pA kA qA))=f3 n:=by
 intro n;induction n with
 |zero=>rfl
 |succ n ih=>funext s1 l2 cA bB eB zA aA bA oA pA kA qA;rw[f3];rw[<-E2,<-E4 (nU (hid ib) n) _ ih];exact aa
theorem H3:(λs1 l2 cA bB eB zA aA bA oA pA kA qA=>hid (nU (hid ib) 100000) (nz s1 l2 cA bB eB zA aA bA oA pA kA qA))=f3 100000:=by rw[cM];exact(T3 100000)
theorem E1:(λs1 l2 r4 aA bA oA pA kA qA=>(hid cQ) ⟨[(1,.au .dj s1),(2,.au .eG l2),(4,.au .jt r4),(5,.ptr 5 0),(8,.ptr 8 0)],[(5,.box 0 [.au .node aA,.au .link bA]),(8,.box 0 [.au .int oA,.au .int pA,.au .int kA,.au .bool qA])]⟩)=f1:=by funext s1 l2 r4 aA bA oA pA kA qA;refine cm ?_;unfold f1;rw[<-H3];exact aa
theorem run:ca X bd an fM [10,11] [] [eA .mP n,.au .dj l,.au .eG r,eA .state s,.au .jt es]=f0 n l r s es:=by unfold f0;rw[<-E1];exact aa
theorem sZ(p:ah cT)(es:ah Rec)(hn:gm n=true)(hb:eR n=true)(he:∀r∈es,tJ r=true)(hl:es.length<=1000): ∀(m i:Nat) (out:ah cO) (s:cO) (z:ah cO),es.length<m+i->i<=es.length->out.length<=i->s.dH.length=n.cD.length->uK s=true->kD n l p s (es.drop i)=some z->f3 m l p out es (Int.ofNat es.length) (i:Int) n.ct n.cD s.fH s.gw s.dH s.ik=YH (out++z):=by
 intro m;induction m with
 |zero=>intro i out s z h1 h2;omega
 |succ m ih=>
  intro i out s z h1 h2 h3 h4 h5 hz;show gf l p out es (Int.ofNat es.length) (i:Int) n.ct n.cD s.fH s.gw s.dH s.ik f2 (f4 (f3 m))=_;unfold gf;by_cases hi:i<es.length
  ·have e:List.getD es (Int.toNat (i:Int)) dh=es[i]:=by rw[toNat_nat,bQ hi]
   have hr:=he _ (bW hi)
   refine(dW (eh (by simp;omega))).trans ((encode.bD (c9 hi)).trans ?_)
   rw[fK hi,pq]at hz;rw[e]
   generalize es[i]=r at hr hz⊢;cases e2:r.ek==(2:Int)with
   |true=>
    rw[e2]at hz;have hz:(bif bz (fu n r.el) 0 then none else kD n l p (setAt n s r) (es.drop (i+1)))=some z:=hz;refine(dW rfl).trans ((encode.bD hn).trans ?_)
    cases e3:bz (fu n r.el) 0 with
    |true=>rw[e3]at hz;cases hz
    |false=>
     rw[e3]at hz;obtain⟨j,hj,hk⟩:=HU e3;have hk:j<s.dH.length:=by rw[h4];exact hk
     obtain⟨v1,v2⟩:=Jb hb hj;have g:=ih (i+1) out (setAt n s r) z ab hi ab (by simpa[setAt]using h4) (HJ h5) hz;have ZK:=h5;simp only[uK,aj]at ZK;rw[e3]at v1 v2;have v1:(bif eR n then 0 else 1:Int)=0:=v1;refine(bT (by show((bif eR n then 0 else 1:Int) !=0)=false;rw[v1];rfl)).trans ((encode.bD ZK.2.2.1).trans ?_)
     unfold setAt at g;rw[hj]at g v2;rw[toNat_nat]at g;have v3:(bif eR n then fu n r.el else 0:Int)=(j:Int):=by rw[hb,hj];rfl
     refine(encode.bD (by show dV (bif eR n then fu n r.el else 0:Int) _=true;rw[v3];exact c9 hk)).trans ((encode.bD (c2 (by show lU (Int.toNat (bif eR n then fu n r.el else 0:Int)) _=true;rw[v3,toNat_nat];exact pw hk) rfl)).trans ?_)
     show f3 m l p out es (Int.ofNat es.length) (i64.wrap ((i:Int)+1)) n.ct n.cD s.fH s.gw (s.dH.set (Int.toNat (bif eR n then fu n r.el else 0:Int)) r.et) s.ik=_;rw[eY i ab,v3,toNat_nat]
     exact g
   |false=>
    rw[e2]at hz;refine(bT rfl).trans ?_;cases e4:r.ek==(1:Int)with
    |false=>
     rw[e4]at hz;refine(bT rfl).trans ?_;show f3 m l p out es (Int.ofNat es.length) (i64.wrap ((i:Int)+1)) _ _ _ _ _ _=_;rw[eY i ab]
     exact ih (i+1) out s z ab hi ab h4 h5 hz
    |true=>
     rw[e4]at hz;refine(dW rfl).trans ((encode.bD (eN hn (aZ.1 hr).1)).trans ?_)
     show ai ((di.P n l p s r.ei r.es).2.2 !=0) _ _=_;generalize hq:di.P n l p s r.ei r.es=q at hz⊢;have hz:(bif q.2.2 !=0 then none else bif !(fO n q.1)then none else(kD n l p q.1 (es.drop (i+1))).map (q.1:: ·))=some z:=hz;cases e5:q.2.2 !=(0:Int)with
     |true=>rw[e5]at hz;cases hz
     |false=>
      rw[e5]at hz;cases e6:fO n q.1 with
      |false=>rw[e6]at hz;cases hz
      |true=>
       rw[e6]at hz;have hz:(kD n l p q.1 (es.drop (i+1))).map (q.1:: ·)=some z:=hz;obtain⟨y,hy,rfl⟩:=aJ.1 hz;have g:=ih (i+1) (out++[q.1]) q.1 y ab hi (by simp;omega) (km e6).2.2.1 (pc hb e6) hy;refine(bT rfl).trans ((encode.bD (xq ab)).trans ?_)
       show f3 m l p (out++[q.1]) es (Int.ofNat es.length) (i64.wrap ((i:Int)+1)) _ _ _ _ _ _=_;rw[eY i ab]
       exact g.trans (congrArg YH (b_ out [q.1] y))
  ·have:i=es.length:=ab
   subst this;rw[bH]at hz;cases hz;refine(bT (dF ae)).trans ?_;rw[cU]
   rfl
theorem aw(p:ah cT)(s:cO)(es:ah Rec)(h:BI n l p s es=true):f0 n l p s es=some (.bP [.au .state (sB n l p s es),.int .i64 (KR n l p s es)],[]):=by
 obtain⟨hn,hb,hc,hp,hs,he,hl,hz⟩:=eP.1 h;obtain⟨z,hz⟩:=g'.1 hz;have ho:∀r∈es,tJ r=true:=λr hr=>vJ (he r hr)
 have k:=pc hb hs;have k':=k;simp only[uK,aj]at k';show cX n l p s es f1=_;unfold cX;rw[hb,hc,hp,hs,OO he]
 refine(encode.bD hn).trans ((bT rfl).trans ((bT rfl).trans ((bT rfl).trans ((encode.bD hn).trans ((bT rfl).trans ((encode.bD (eN (c_ ab) (aP.2 ho))).trans ((bT rfl).trans ((bT (dF (by simp only[aW];omega))).trans ?_))))))))
 show aU (bU s.dH.length 90000) _=_;refine(encode.bD k'.2.2.1).trans ?_;refine(sZ n l p es hn hb ho hl 100000 0 [] s z ab ab ae (km hs).2.2.1 k (by rw[fq];exact hz)).trans ?_;unfold sB KR;rw[hz]
 rfl
def c:Ct:=⟨18,cj (A5 (aR .mP) (bL .dj) (bL .eG) (aR .state) (bL .jt) λn l r s es=>(BI n l r s es,(.bP [.au .state (sB n l r s es),.int .i64 (KR n l r s es)]))),ir call18 func18 (a5 λn l r s es e_=>(run n l r s es).trans (aw n l r s es e_))⟩
end replay
def M1{α:Type}(p:α->α->Bool):ah α->ah α->Bool
 |[],[]=>true
 |x::xs,y::ys=>p x y&&M1 p xs ys
 |_,_=>false
theorem Ie{α:Type}{p:α->α->Bool}:∀{a b:ah α},¬a.length=b.length->M1 p a b=false:=by
 intro a;induction a with
 |nil=>
  intro b h;cases b with
  |nil=>exact absurd rfl h
  |cons=>rfl
 |cons x a ih=>
  intro b h;cases b with
  |nil=>rfl
  |cons y b=>
   show(p x y&&M1 p a b)=false;rw[ih (by simpa using h),gE]
theorem vZ{α:Type}{p:α->α->Bool}(hp:∀x,p x x=true):∀a:ah α,M1 p a a=true:=by
 intro a;induction a with
 |nil=>rfl
 |cons x a ih=>exact c2 (hp x) ih
theorem za(r:Rec):kS r r=true:=by simp[kS]
theorem y_(s:cO):rR s s=true:=by simp[rR]
def JF(a b:ah Rec):Bool:=M1 kS a b
def Mc(a b:ah cO):Bool:=M1 rR a b
namespace UL
variable(a b cA:ah Rec)
def X:=dp [FK.c] 32
def bd:=dG f16
def RR:bn U El:=λst=>cN (cS [6]) st (ch [6] [])
def eE:Norm U:=cS []
def dI:Norm U:=cS [1,2,15,16,17]
def an:gb U:=(.seq none .d (.seq none .d (.seq (some eE) (.seq none .d (.block (.loop dI .d))) .d)))
abbrev Y1:=R
abbrev Y2:=(ah Rec)->(ah Rec)->Int->Int->R
def fY(bA:ah Rec)(dA aA:Int):St U El:=⟨[(1,.au .jt cA),(2,.fn 17 [] []),(15,.au .jt bA),(16,.int .i64 dA),(17,.int .i64 aA)],[]⟩
def cX(k2:Y2):R:=ai ((Int.ofNat a.length) !=(Int.ofNat b.length)) (aq false) (k2 b a (Int.ofNat a.length) (0:Int))
def dR:R:=aq true
def dQ(bA:ah Rec)(dA aA:Int)(k1:Y1)(k2:Y2):R:=ai (bz aA dA) (aU (dV aA bA.length) (aU (dV aA cA.length) (aU (bU (List.length (Rec.ei (bA.getD aA.toNat dh))) 90000) (ai (!(kS (bA.getD aA.toNat dh) (cA.getD aA.toNat dh))) (aq false) (k2 cA bA dA (i64.wrap (aA+(1:Int)))))))) (k1)
abbrev ex:=kf X bd an RR
abbrev it:=nO X bd an RR
def gu(gW:bn U El):=it dI [1,1,0,1,0,0] (cu 0 (bG eE gW) nE)
def cQ:=ex [1,1,1] RR nE
def f1:R:=dR
def f2:Nat->Y2
 |0=>λ_ _ _ _=>none
 |n+1=>λcA bA dA aA=>dQ cA bA dA aA f1 (f2 n)
def f0:R:=cX a b (f2 100000)
theorem E1:((hid cQ) ⟨[],[]⟩)=f1:=by refine cm ?_;unfold f1;exact aa
theorem T2:∀n,(λcA bA dA aA=>gu (hid cQ) n (fY cA bA dA aA))=f2 n:=by
 intro n;induction n with
 |zero=>rfl
 |succ n ih=>funext cA bA dA aA;rw[f2];rw[<-E1,<-ih];exact aa
theorem H2:(λcA bA dA aA=>hid (gu (hid cQ) 100000) (fY cA bA dA aA))=f2 100000:=by rw[cM];exact(T2 100000)
theorem run:ca X bd an (cS [6]) [6] [] [.au .jt a,.au .jt b,.fn 17 [] []]=f0 a b:=by unfold f0;rw[<-H2];exact aa
theorem h_(hl:b.length=a.length)(h:a.length<=90000)(ho:∀x∈a,tJ x=true): ∀(m i:Nat),a.length<m+i->i<=a.length->f2 m b a (Int.ofNat a.length) (i:Int)=aq (M1 kS (a.drop i) (b.drop i)):=by
 intro m;induction m with
 |zero=>intro i h1 h2;omega
 |succ m ih=>
  intro i h1 h2;show dQ b a (Int.ofNat a.length) (i:Int) f1 (f2 m)=_;unfold dQ;by_cases hi:i<a.length
  ·have hj:i<b.length:=ab
   have e:List.getD a (Int.toNat (i:Int)) dh=a[i]:=by rw[toNat_nat,bQ hi]
   have e2:List.getD b (Int.toNat (i:Int)) dh=b[i]:=by rw[toNat_nat,bQ hj]
   have g:=ih (i+1) ab hi;have ho:=ho _ (bW hi)
   refine(dW (eh (by simp;omega))).trans ((encode.bD (c9 hi)).trans ((encode.bD (c9 hj)).trans ?_))
   rw[e,e2,fK hi,fK hj]
   refine(encode.bD (aZ.1 ho).1).trans ?_;cases e3:kS a[i] b[i]with
   |false=>
    refine(dW rfl).trans ?_;show _=aq (kS a[i] b[i]&&_)
    rw[e3]
    rfl
   |true=>
    refine(bT rfl).trans ?_;rw[eY i ab,g]
    show _=aq (kS a[i] b[i]&&_)
    rw[e3]
    rfl
  ·have:i=a.length:=ab
   subst this;refine(bT (dF ae)).trans ?_;rw[bH,mT ab]
   rfl
theorem aw(h:(bU a.length 90000&&List.all a tJ)=true):f0 a b=aq (M1 kS a b):=by
 have ha:=ia (aZ.1 h).1;have ho:=aP.1 (aZ.1 h).2;show cX a b (f2 100000)=_;unfold cX;by_cases hl:a.length=b.length
 ·refine(bT (by rw[hl];simp)).trans ?_;rw[show(0:Int)=((0:Nat):Int)from rfl,h_ a b hl.symm ha ho 100000 0 ab ab,fq,fq]
 ·refine(dW (by exact bne_iff_ne.2 λe=>hl (hO e))).trans ?_;rw[Ie hl]
def g:ah (AV U El)->Option (Bool×AV U El)
 |[.au .jt a,.au .jt b,.fn 17 [] []]=>some (bU a.length 90000&&List.all a tJ,.bool (JF a b))
 |_=>none
def c:Ct:=⟨16,cj g,ir call16 func16 λvs v h e=>by
 unfold g at h;split at h;cases h;exact(run _ _).trans (aw _ _ e);cases h⟩
end UL
namespace UK
variable(a b cA:ah cO)
def X:=dp [KO.c] 32
def bd:=dG f19
def RR:bn U El:=λst=>cN (cS [6]) st (ch [6] [])
def eE:Norm U:=cS []
def dI:Norm U:=cS [1,2,15,16,17]
def an:gb U:=(.seq none .d (.seq none .d (.seq (some eE) (.seq none .d (.block (.loop dI .d))) .d)))
abbrev Y1:=R
abbrev Y2:=(ah cO)->(ah cO)->Int->Int->R
def fY(bA:ah cO)(dA aA:Int):St U El:=⟨[(1,.au .state cA),(2,.fn 20 [] []),(15,.au .state bA),(16,.int .i64 dA),(17,.int .i64 aA)],[]⟩
def cX(k2:Y2):R:=ai ((Int.ofNat a.length) !=(Int.ofNat b.length)) (aq false) (k2 b a (Int.ofNat a.length) (0:Int))
def dR:R:=aq true
def dQ(bA:ah cO)(dA aA:Int)(k1:Y1)(k2:Y2):R:=ai (bz aA dA) (aU (dV aA bA.length) (aU (dV aA cA.length) (aU (uK (bA.getD aA.toNat wk)) (ai (!(rR (bA.getD aA.toNat wk) (cA.getD aA.toNat wk))) (aq false) (k2 cA bA dA (i64.wrap (aA+(1:Int)))))))) (k1)
abbrev ex:=kf X bd an RR
abbrev it:=nO X bd an RR
def gu(gW:bn U El):=it dI [1,1,0,1,0,0] (cu 0 (bG eE gW) nE)
def cQ:=ex [1,1,1] RR nE
def f1:R:=dR
def f2:Nat->Y2
 |0=>λ_ _ _ _=>none
 |n+1=>λcA bA dA aA=>dQ cA bA dA aA f1 (f2 n)
def f0:R:=cX a b (f2 100000)
theorem E1:((hid cQ) ⟨[],[]⟩)=f1:=by refine cm ?_;unfold f1;exact aa
theorem T2:∀n,(λcA bA dA aA=>gu (hid cQ) n (fY cA bA dA aA))=f2 n:=by
 intro n;induction n with
 |zero=>rfl
 |succ n ih=>funext cA bA dA aA;rw[f2];rw[<-E1,<-ih];exact aa
theorem H2:(λcA bA dA aA=>hid (gu (hid cQ) 100000) (fY cA bA dA aA))=f2 100000:=by rw[cM];exact(T2 100000)
theorem run:ca X bd an (cS [6]) [6] [] [.au .state a,.au .state b,.fn 20 [] []]=f0 a b:=by unfold f0;rw[<-H2];exact aa
theorem h_(hl:b.length=a.length)(h:a.length<=90000)(ho:∀x∈a,uK x=true): ∀(m i:Nat),a.length<m+i->i<=a.length->f2 m b a (Int.ofNat a.length) (i:Int)=aq (M1 rR (a.drop i) (b.drop i)):=by
 intro m;induction m with
 |zero=>intro i h1 h2;omega
 |succ m ih=>
  intro i h1 h2;show dQ b a (Int.ofNat a.length) (i:Int) f1 (f2 m)=_;unfold dQ;by_cases hi:i<a.length
  ·have hj:i<b.length:=ab
   have e:List.getD a (Int.toNat (i:Int)) wk=a[i]:=by rw[toNat_nat,bQ hi]
   have e2:List.getD b (Int.toNat (i:Int)) wk=b[i]:=by rw[toNat_nat,bQ hj]
   have g:=ih (i+1) ab hi;have ho:=ho _ (bW hi)
   refine(dW (eh (by simp;omega))).trans ((encode.bD (c9 hi)).trans ((encode.bD (c9 hj)).trans ?_))
   rw[e,e2,fK hi,fK hj]
   refine(encode.bD ho).trans ?_;cases e3:rR a[i] b[i]with
   |false=>
    refine(dW rfl).trans ?_;show _=aq (rR a[i] b[i]&&_)
    rw[e3]
    rfl
   |true=>
    refine(bT rfl).trans ?_;rw[eY i ab,g]
    show _=aq (rR a[i] b[i]&&_)
    rw[e3]
    rfl
  ·have:i=a.length:=ab
   subst this;refine(bT (dF ae)).trans ?_;rw[bH,mT ab]
   rfl
theorem aw(h:(bU a.length 90000&&List.all a uK)=true):f0 a b=aq (M1 rR a b):=by
 have ha:=ia (aZ.1 h).1;have ho:=aP.1 (aZ.1 h).2;show cX a b (f2 100000)=_;unfold cX;by_cases hl:a.length=b.length
 ·refine(bT (by rw[hl];simp)).trans ?_;rw[show(0:Int)=((0:Nat):Int)from rfl,h_ a b hl.symm ha ho 100000 0 ab ab,fq,fq]
 ·refine(dW (by exact bne_iff_ne.2 λe=>hl (hO e))).trans ?_;rw[Ie hl]
def g:ah (AV U El)->Option (Bool×AV U El)
 |[.au .state a,.au .state b,.fn 20 [] []]=>some (bU a.length 90000&&List.all a uK,.bool (Mc a b))
 |_=>none
def c:Ct:=⟨19,cj g,ir call19 func19 λvs v h e=>by
 unfold g at h;split at h;cases h;exact(run _ _).trans (aw _ _ e);cases h⟩
end UK
namespace Yz
def X:=dp [DA.c] 18
def f0(x:Rec):R:=ai (bz (20:Int) (Int.ofNat x.ei.length)) (aq true) (ai (bz (60:Int) (Int.ofNat x.ex.length)) (aq true) (aU (tJ x) (aq (!(jI x)))))
theorem run(x):ca X (dG Tryz.f7) .d (cS [2]) [2] [] [eA .jt x]=f0 x:=aa
theorem aw(r:Rec):f0 r=aq (qc r):=by
 unfold f0 qc;cases e1:bz 20 (Int.ofNat r.ei.length)with
 |true=>rfl
 |false=>
  cases e2:bz 60 (Int.ofNat r.ex.length)with
  |true=>rfl
  |false=>
   have h1:=oD e1;have h2:=oD e2;simp only[aW]at h1 h2;exact(bT rfl).trans ((bT rfl).trans (encode.bD (eN (c_ ab) (c_ ab))))
def c:Ct:=⟨7,dU (A1 (aR .jt) λx=>(.bool (qc x))),oS call7 func7 (a1 λx=>(run x).trans (aw x))⟩
end Yz
namespace Sh
def X:=dp [Yz.c] 19
def g:ah (AV U El)->Option (Bool×AV U El)
 |[.au .jt l,.fn 7 [] []]=>some (bU l.length 90000,.int .i64 (dM qc 0 l))
 |_=>none
def c:Ct:=⟨34,cj g,ir call34 func34 λvs v h e=>by
 unfold g at h;split at h;cases h;exact qt (X:=X) e aa (λ_ _ _=>aa) aa;cases h⟩
end Sh
namespace Si
def X:=dp [Sh.c] 9
def g:ah (AV U El)->Option (Bool×AV U El)
 |[.au .jt l,.fn 7 [] []]=>some (bU l.length 90000,.bool (List.any l qc))
 |_=>none
def c:Ct:=⟨6,cj g,ir call6 func6 λvs v h e=>by
 unfold g at h;split at h;cases h;exact cont (X:=X) e aa;cases h⟩
end Si
theorem BV{n:Net}(h:s6 n=false):gm n=true:=by
 simp only[s6,hY]at h;have h1:=oD h.1;have h2:=oD h.2.1;simp only[aW]at h1 h2;refine eN (c_ ab) (eN (c_ ab) (aP.2 λx hx=>?_))
 have:=gC.1 h.2.2.2 x hx;simp only[qk,eX,not_or,Bool.not_eq_true]at this;have h3:=oD this.1;simp only[aW]at h3;exact c_ ab
namespace BB
variable(t:pS)
def X:=dp [BM.c,DM.c,Ho.c,Hw.c,KL.c,yl.c] 43
def f0:R:=ai (!(s6 (⟨t.tn,t.tk⟩:Net))) (ai (!(BR t.ts t.tl ([]:ah C'))) (ai (bg (Int.ofNat t.tl.length) (6:Int)) (aU (gm (⟨t.tn,t.tk⟩:Net)) (ai (eR (⟨t.tn,t.tk⟩:Net)) (ai (qG t.ts) (ai (lx t.tl) (aU ((gm (⟨t.tn,t.tk⟩:Net)&&eR (⟨t.tn,t.tk⟩:Net))) (aq (fO (⟨t.tn,t.tk⟩:Net) (⟨t.tv,t.tp,t.tt,t.to⟩:cO)))) (aq false)) (aq false)) (aq false))) (aq false)) (aq false)) (aq false)
theorem run:ca X (dG Tryz.f5) .d (cS [2]) [2] [] [eA .rp t]=f0 t:=aa
theorem aw:f0 t=aq (BC t):=by
 unfold f0 BC;cases e1:s6 (⟨t.tn,t.tk⟩:Net)with
 |true=>rfl
 |false=>
  have hn:=BV e1;refine(dW rfl).trans ?_;cases e2:BR t.ts t.tl []with
  |true=>rfl
  |false=>
   refine(dW rfl).trans ?_;cases e3:bg (Int.ofNat t.tl.length) 6 with
   |false=>rfl
   |true=>
    refine(dW rfl).trans ((encode.bD hn).trans ?_)
    cases e4:eR (⟨t.tn,t.tk⟩:Net)with
    |false=>rfl
    |true=>
     refine(dW rfl).trans ?_;cases e5:qG t.ts with
     |false=>rfl
     |true=>
      refine(dW rfl).trans ?_;cases e6:lx t.tl with
      |false=>rfl
      |true=>exact(dW rfl).trans (encode.bD (c2 hn rfl))
def c:Ct:=⟨5,dU (A1 (aR .rp) λt=>(.bool (BC t))),oS call5 func5 (a1 λt=>(run t).trans (aw t))⟩
end BB
theorem Mv:∀(a b:ah (ah UInt8)),fL (a++b)=fL a++fL b:=by
 intro a;induction a with
 |nil=>intro b;rfl
 |cons x a ih=>intro b;show iz x++fL (a++b)=(iz x++fL a)++fL b;rw[ih,b_]
theorem II{q:ah UInt8}(h:C7 q)(m:Nat):C7 (q.take m):=by
 obtain⟨b,h1,h2,h3⟩:=h;refine⟨b,h1,by rw[bV];omega,?_⟩
 rw[bV]
 conv=>lhs;rw[h3]
 rw[List.take_take]
theorem FW: ∀(bs:ah (ah UInt8)) (q:ah UInt8),(∀b∈bs,b.length<=65535)->C7 q-> ∀m:Nat,∃j q',j<=bs.length/\C7 q'/\(fL bs++q).take m=fL (bs.take j)++q'/\ ∀k,k<=bs.length->(fL (bs.take k)).length<=m->k<=j:=by
 intro bs;induction bs with
 |nil=>
  intro q _ hq m;exact⟨0,q.take m,aY _,II hq m,rfl,λk hk _=>hk⟩
 |cons b bs ih=>
  intro q hb hq m;have xW:=hb b (gX ..)
  by_cases h:m<(iz b).length
  ·refine⟨0,(iz b).take m,eS _,⟨b,xW,by rw[bV];omega,?_⟩,?_,?_⟩
   ·rw[bV,eV (Nat.le_of_lt h)]
   ·show((iz b++fL bs)++q).take m=[]++_;rw[b_,List.take_append_of_le_length (Nat.le_of_lt h),gh]
   ·intro k hk hl;cases k with
    |zero=>exact aY _
    |succ k=>
     have:(iz b++fL (bs.take k)).length<=m:=hl;rw[aF]at this;omega
  ·obtain⟨j,q',h1,h2,h3,h4⟩:=ih q (λx hx=>hb x (dE _ hx)) hq (m-(iz b).length)
   refine⟨j+1,q',Nat.succ_le_succ h1,h2,?_,?_⟩
   ·show((iz b++fL bs)++q).take m=(iz b++fL (bs.take j))++q';rw[b_,b_,<-h3,List.take_append,ki ab]
   ·intro k hk hl;cases k with
    |zero=>exact eS _
    |succ k=>
     have:(iz b++fL (bs.take k)).length<=m:=hl;rw[aF]at this;exact Nat.succ_le_succ (h4 k (Nat.le_of_succ_le_succ hk) ab)
theorem Mf:∀(bs:ah (ah UInt8)) (p k:Nat),k<bs.length->((p+(fL (bs.take (k+1))).length:Nat):Int)∈nC p bs:=by
 intro bs;induction bs with
 |nil=>intro p k h;exact absurd h (Nat.not_lt_zero _)
 |cons b bs ih=>
  intro p k h;cases k with
  |zero=>
   show((p+(iz b++[]).length:Nat):Int)∈_::_;rw[cU]
   exact gX ..
  |succ k=>
   have:=ih (p+(iz b).length) k (Nat.lt_of_succ_lt_succ h)
   show((p+(iz b++fL (bs.take (k+1))).length:Nat):Int)∈_::_;rw[aF,<-fb]
   exact dE _ this
theorem EI{bs:ah (ah UInt8)}{k:Nat}(h:k<=bs.length):(((fL (bs.take k)).length:Nat):Int)=0\/(((fL (bs.take k)).length:Nat):Int)∈nC 0 bs:=by
 cases k with
 |zero=>exact .inl rfl
 |succ k=>
  have:=Mf bs 0 k h;rw[bZ]at this;exact .inr this
theorem GV:∀(bs:ah (ah UInt8)),(∀b∈bs,b.length<=3000)->(fL bs).length<=3008*bs.length:=by
 intro bs;induction bs with
 |nil=>intro _;exact aY _
 |cons b bs ih=>
  intro h;have h1:=ih λx hx=>h x (dE _ hx)
  have h2:=h b (gX ..)
  have h3:=oq b;show(iz b++fL bs).length<=_;rw[aF,cI]
  omega
structure jV (es:List Rec) (d:bS) (j k:Nat) (q:List UInt8):Prop where
 jl:j<=es.length
 kj:k<=j
 dd:d.dd=fL ((es.take j).map fT)++q
 Sj:C7 q
 qs:q.length<=3008
 dn:d.dn=((fL ((es.take k).map fT)).length:Int)
 da: -1<=d.da/\d.da<=1048576
 qa:q=[]\/d.da=0
theorem Am{es:ah Rec}(he:∀r∈es,jI r=true):∀b∈es.map fT,b.length<=3000:=by intro b hb;obtain⟨r,hr,rfl⟩:=eT.1 hb;exact(GH (he r hr)).2.2
theorem jV.len{es:ah Rec}{d:bS}{j k:Nat}{q:ah UInt8}(h:jV es d j k q)(he:∀r∈es,jI r=true)(hl:es.length<=12):d.dd.length<=40000:=by
 have h1:=GV _ (Am λr hr=>he r (jN j es hr))
 have h2:=h.qs;rw[h.dd,aF]
 rw[gk,bV]at h1;omega
theorem jV.ok{es:ah Rec}{d:bS}{j k:Nat}{q:ah UInt8}(h:jV es d j k q)(he:∀r∈es,jI r=true)(hl:es.length<=12):lY d ((es.take j).map fT) q:=by
 have h1:=Am λr hr=>he r (jN j es hr)
 refine⟨h.dd,⟨λb hb=>ck (h1 b hb) ab,h.Sj,?_⟩,h.da,?_⟩
 ·have:=h.len he hl;rw[h.dd]at this;omega
 ·rw[h.dn]
  have e:(es.take k).map fT=((es.take j).map fT).take k:=by rw[<-List.map_take,List.take_take,eV h.kj]
  rw[e]
  exact EI (by have:=h.jl;have:=h.kj;rw[gk,bV];omega)
theorem take_succ{es:ah Rec}{j:Nat}(hj:j<es.length):fL ((es.take (j+1)).map fT)=fL ((es.take j).map fT)++iz (fT es[j]):=by
 rw[List.take_succ_eq_append_getElem hj,oP,Mv]
 show _++(iz (fT es[j])++[])=_;rw[cU]
theorem tx{d:bS}(h:d.da=0)(r:Rec):bJ d r=(d,19):=by
 unfold bJ;rw[show(d.da==0)=true by simpa using h]
 rfl
theorem jV.append{es:ah Rec}{d:bS}{j k:Nat}{q:ah UInt8}(h:jV es d j k q)(he: ∀r∈es,jI r=true)(hj:j<es.length):
 ((bJ d es[j]).2=19/\(bJ d es[j]).1.da=0/\∃q',jV es (bJ d es[j]).1 j k q')\/((bJ d es[j]).2=0/\jV es (bJ d es[j]).1 (j+1) k []/\(d.da= -1->(bJ d es[j]).1.da= -1)):=by
 have hb:=(GH (he _ (bW hj))).2.2;have hf:=oq (fT es[j])
 by_cases h0:d.da=0
 ·rw[tx h0]
  exact .inl ⟨rfl,h0,q,h⟩
 ·have hq:=h.qa.resolve_right h0;subst hq;have LP:=h.dd;rw[cU]at LP;have hda:=h.da;unfold bJ;rw[Py h0]
  cases e1:bg 0 d.da&&bz d.da (Int.ofNat (iz (fT es[j])).length)with
  |true=>
   have z0:=ja (aZ.1 e1).1;have z1:=N7 (aZ.1 e1).2;simp only[aW]at z1;refine .inl ⟨rfl,rfl,(iz (fT es[j])).take d.da.toNat,⟨h.jl,h.kj,by rw[<-LP];rfl,⟨fT es[j],ab,by rw[bV];omega,?_⟩,by rw[bV];omega,h.dn,⟨by show(-1:Int)<=0;decide,by show(0:Int)<=1048576;decide⟩,.inr rfl⟩⟩
   rw[bV,eV ab]
  |false=>
   have z:d.da<0\/((iz (fT es[j])).length:Int)<=d.da:=by
    rcases Bool.and_eq_false_iff.1 e1 with e|e
    ·exact .inl (by simpa[bg]using e)
    ·exact .inr (by have:=oD e;simpa using this)
   refine .inr ⟨rfl,⟨hj,Nat.le_succ_of_le h.kj,by rw[take_succ hj,cU,<-LP];rfl,vz,ae,h.dn,?_,.inl rfl⟩,?_⟩
   ·show-1<=(bif bz 0 d.da then d.da-Int.ofNat (iz (fT es[j])).length else d.da)/\(bif bz 0 d.da then d.da-Int.ofNat (iz (fT es[j])).length else d.da)<=1048576;cases e2:bz 0 d.da with
    |true=>have:=N7 e2;simp only[aW,cond_true];omega
    |false=>exact hda
   ·intro e;show(bif bz 0 d.da then d.da-Int.ofNat (iz (fT es[j])).length else d.da)= -1;rw[e]
    rfl
theorem jV.sync{es:ah Rec}{d:bS}{j k:Nat}{q:ah UInt8}(h:jV es d j k q):
 (d.da=0/\fX d=(d,19))\/(d.da≠0/\(fX d).2=0/\(fX d).1.da=d.da/\jV es (fX d).1 j j []):=by
 unfold fX;by_cases h0:d.da=0
 ·rw[show(d.da==0)=true by simpa using h0]
  exact .inl ⟨h0,rfl⟩
 ·have hq:=h.qa.resolve_right h0;subst hq;rw[Py h0]
  exact .inr ⟨h0,rfl,rfl,⟨h.jl,aY _,h.dd,vz,ae,by show Int.ofNat d.dd.length=_;rw[h.dd,cU];rfl,h.da,.inl rfl⟩⟩
theorem jV.U0{es:ah Rec}{d:bS}{j k:Nat}{q:ah UInt8}(h:jV es d j k q)(he:∀r∈es,jI r=true)(hl:es.length<=12){kp:Int}(h0:0<=kp)(h1:kp<=(d.dd.length:Int)-d.dn):
 wa (eU d kp).1=true/\∃j',k<=j'/\j'<=j/\jV es (gI (eU d kp).1).1 j' j' []/\(gI (eU d kp).1).1.da= -1:=by
 have hd:=h.ok he hl;have hlen:=h.len he hl;have mQ:=h.jl;have iV:((es.take j).map fT).length=j:=by rw[gk,bV];omega
 obtain⟨j',q',g1,g2,g3,g4⟩:=FW ((es.take j).map fT) q hd.2.1.1 h.Sj (d.dn+kp).toNat;rw[iV]at g1 g4;have et:∀i,i<=j->((es.take j).map fT).take i=(es.take i).map fT:=λi hi=>by rw[<-List.map_take,List.take_take,eV hi]
 rw[et j' g1]at g3;have hk:k<=j':=g4 k h.kj (by rw[et k h.kj];have:=h.dn;omega)
 have xI:j'<=es.length:=ck g1 mQ;have ec:(eU d kp).1=⟨fL ((es.take j').map fT)++q',d.dn,-1⟩:=by
  show(⟨sub d.dd 0 (d.dn+kp),d.dn,-1⟩:bS)=_;have:sub d.dd 0 (d.dn+kp)=fL ((es.take j').map fT)++q':=by
   rw[<-g3,<-h.dd]
   unfold sub;simp
  rw[this]
 have tR:(fL ((es.take j').map fT)++q').length<=40000:=by
  rw[<-g3,<-h.dd,bV]
  omega
 have Xy:=Am λr hr=>he r (jN j' es hr)
 have hG:Good ((es.take j').map fT) q':=⟨λb hb=>ck (Xy b hb) ab,g2,ab⟩
 have hdk:d.dn=0\/d.dn∈nC 0 ((es.take j').map fT):=by
  rw[h.dn]
  have e:(es.take k).map fT=((es.take j').map fT).take k:=by rw[<-List.map_take,List.take_take,eV hk]
  rw[e]
  exact EI (by rw[gk,bV];omega)
 have hw:whole.P (fL ((es.take j').map fT)++q')=((fL ((es.take j').map fT)).length:Int):=whole.lX hG;have eo:(gI (eU d kp).1).1=⟨fL ((es.take j').map fT),((fL ((es.take j').map fT)).length:Int),-1⟩:=by
  rw[ec]
  show(⟨sub (fL ((es.take j').map fT)++q') 0 (whole.P (fL ((es.take j').map fT)++q')),whole.P (fL ((es.take j').map fT)++q'),-1⟩:bS)=_;rw[hw]
  have:sub (fL ((es.take j').map fT)++q') 0 ((fL ((es.take j').map fT)).length:Int)=fL ((es.take j').map fT):=by
   unfold sub;simp
  rw[this]
 refine⟨?_,j',hk,g1,?_,by rw[eo]⟩
 ·rw[ec]
  exact eP.2 ⟨_,q',⟨rfl,hG,⟨by show(-1:Int)<= -1;omega,by show(-1:Int)<=_;omega⟩,hdk⟩,by show(-1:Int)≠0;decide⟩
 ·rw[eo]
  exact⟨xI,aY _,by rw[cU],vz,ae,rfl,⟨by show(-1:Int)<= -1;omega,by show(-1:Int)<=_;omega⟩,.inl rfl⟩
theorem jV.records{es:ah Rec}{d:bS}{j k:Nat}{q:ah UInt8}(h:jV es d j k q)(he:∀r∈es,jI r=true)(hl:es.length<=12):DJ d=true/\records.P d=(es.take j,0):=
 have h1:=λr hr=>he r (jN j es hr)
 ⟨eP.2 ⟨es.take j,q,h1,h.ok he hl⟩,records.lX h1 (h.ok he hl)⟩
theorem IM(n:Net)(l:ah cK)(p:ah cT): ∀(a b:ah Rec) (s:cO) (z:ah cO),kD n l p s (a++b)=some z-> ∃y w,kD n l p s a=some y/\z=y++w:=by
 intro a;induction a with
 |nil=>intro b s z _;exact⟨[],z,rfl,rfl⟩
 |cons r a ih=>
  intro b s z h;rw[eM,pq]at h;rw[pq]
  cases e2:r.ek==(2:Int)with
  |true=>
   rw[e2]at h;cases e3:bz (fu n r.el) 0 with
   |true=>rw[e3]at h;cases h
   |false=>rw[e3]at h;exact ih b _ z h
  |false=>
   rw[e2]at h;cases e4:r.ek==(1:Int)with
   |false=>rw[e4]at h;exact ih b _ z h
   |true=>
    rw[e4]at h;generalize di.P n l p s r.ei r.es=q at h⊢;have h:(bif q.2.2 !=0 then none else bif !(fO n q.1)then none else(kD n l p q.1 (a++b)).map (q.1:: ·))=some z:=h;show∃y w,(bif q.2.2 !=0 then none else bif !(fO n q.1)then none else(kD n l p q.1 a).map (q.1:: ·))=some y/\z=y++w;cases e5:q.2.2 !=(0:Int)with
    |true=>rw[e5]at h;cases h
    |false=>
     rw[e5]at h;cases e6:fO n q.1 with
     |false=>rw[e6]at h;cases h
     |true=>
      rw[e6]at h;have h:(kD n l p q.1 (a++b)).map (q.1:: ·)=some z:=h;obtain⟨x,hx,rfl⟩:=aJ.1 h;obtain⟨y,w,hy,rfl⟩:=ih b _ x hx;refine⟨q.1::y,w,?_,rfl⟩
      show(kD n l p q.1 a).map (q.1:: ·)=_;rw[hy]
      rfl
theorem Sn(n:Net)(l:ah cK)(p:ah cT)(hb:eR n=true): ∀(a:ah Rec) (s:cO) (z:ah cO),kD n l p s a=some z->z.length<=a.length/\ ∀x∈z,uK x=true:=by
 intro a;induction a with
 |nil=>intro s z h;cases h;exact⟨aY _,λx hx=>nomatch hx⟩
 |cons r a ih=>
  intro s z h;rw[pq]at h;rw[cI]
  cases e2:r.ek==(2:Int)with
  |true=>
   rw[e2]at h;cases e3:bz (fu n r.el) 0 with
   |true=>rw[e3]at h;cases h
   |false=>rw[e3]at h;have:=ih _ z h;exact⟨ab,this.2⟩
  |false=>
   rw[e2]at h;cases e4:r.ek==(1:Int)with
   |false=>rw[e4]at h;have:=ih _ z h;exact⟨ab,this.2⟩
   |true=>
    rw[e4]at h;generalize di.P n l p s r.ei r.es=q at h;have h:(bif q.2.2 !=0 then none else bif !(fO n q.1)then none else(kD n l p q.1 a).map (q.1:: ·))=some z:=h;cases e5:q.2.2 !=(0:Int)with
    |true=>rw[e5]at h;cases h
    |false=>
     rw[e5]at h;cases e6:fO n q.1 with
     |false=>rw[e6]at h;cases h
     |true=>
      rw[e6]at h;have h:(kD n l p q.1 a).map (q.1:: ·)=some z:=h;obtain⟨x,hx,rfl⟩:=aJ.1 h;have:=ih _ x hx;refine⟨by rw[cI];omega,λy hy=>?_⟩
      rcases bN.1 hy with rfl|hy
      ·exact pc hb e6
      ·exact this.2 y hy
end
end Go.Proofs.YtfmamkmmohilgaaGreatDoor
namespace Go.Proofs.YtfmamkmmohilgaaGreatDoor
open Go.Proofs.Tryz IntKind
set_option linter.all false
open Go.Shelf Go.Lib Go.Sort
noncomputable section
def Ea:Go.Shelf.Ren:=⟨λ|129=>314|171=>125|243=>199|246=>253|283=>320|284=>321|285=>322|286=>323|317=>374|318=>375|319=>376|320=>377|337=>428|338=>429|n=>n,λ|0=>0|2=>2|3=>3|4=>4|5=>5|9=>9|20=>20|37=>47|46=>177|51=>261|53=>243|171=>401|173=>403|212=>444|213=>445|232=>508|233=>509|n=>n,λ|1=>2|3=>3|4=>4|15=>6|16=>7|17=>5|18=>8|19=>9|n=>n⟩
theorem N4:Go.Proofs.LaysM.n171 prog Ea:={
 mixed:=aa
 f129:=func314.trans (congrArg some aa)
 f171:=func125.trans (congrArg some aa)
 f243:=func199.trans (congrArg some aa)
 f246:=func253.trans (congrArg some aa)
 f283:=func320.trans (congrArg some aa)
 f284:=func321.trans (congrArg some aa)
 f285:=func322.trans (congrArg some aa)
 f286:=func323.trans (congrArg some aa)
 f317:=func374.trans (congrArg some aa)
 f318:=func375.trans (congrArg some aa)
 f319:=func376.trans (congrArg some aa)
 f320:=func377.trans (congrArg some aa)
 f337:=func428.trans (congrArg some aa)
 f338:=func429.trans (congrArg some aa)
 t0:=underlying0
 a0:=isAgg0
 z0:=sizeOf0
 v0:=zeroValue0
 t2:=underlying2
 a2:=isAgg2
 z2:=sizeOf2
 v2:=zeroValue2
 t3:=underlying3
 a3:=isAgg3
 z3:=sizeOf3
 v3:=zeroValue3
 t4:=underlying4
 a4:=isAgg4
 z4:=sizeOf4
 v4:=zeroValue4
 t5:=underlying5
 a5:=isAgg5
 z5:=sizeOf5
 v5:=zeroValue5
 t9:=underlying9
 a9:=isAgg9
 z9:=sizeOf9
 v9:=zeroValue9
 t20:=underlying20
 a20:=isAgg20
 z20:=sizeOf20
 v20:=zeroValue20
 t37:=underlying47
 a37:=isAgg47
 z37:=sizeOf47
 v37:=zeroValue47
 t46:=underlying177
 a46:=isAgg177
 z46:=sizeOf177
 v46:=zeroValue177
 t51:=underlying261
 a51:=isAgg261
 z51:=sizeOf261
 v51:=zeroValue261
 t53:=underlying243
 a53:=isAgg243
 z53:=sizeOf243
 v53:=zeroValue243
 t171:=underlying401
 a171:=isAgg401
 z171:=sizeOf401
 v171:=zeroValue401
 t173:=underlying403
 a173:=isAgg403
 z173:=sizeOf403
 v173:=zeroValue403
 t212:=underlying444
 a212:=isAgg444
 z212:=sizeOf444
 v212:=zeroValue444
 t213:=underlying445
 a213:=isAgg445
 z213:=sizeOf445
 t232:=underlying508
 a232:=isAgg508
 z232:=sizeOf508
 v232:=zeroValue508
 t233:=underlying509
 a233:=isAgg509
 z233:=sizeOf509
 v233:=zeroValue509
 g17:=aa
 g18:=aa
 g19:=aa
 i0:=aa
 i2:=aa
 i3:=aa
 i4:=aa
 i5:=aa
 i9:=aa
 i20:=aa
 i37:=aa
 i46:=aa
 i51:=aa
 i53:=aa
 i171:=aa
 i173:=aa
 i212:=aa
 i232:=aa
 i233:=aa
 m17:=aa
 m18:=aa
 m19:=aa
}
open Go.RowKit Go.Sort Go.Lib in
theorem strconv_Itoa(n:Int)(h0: -9223372036854775808<=n)(h1:n<=9223372036854775807)(w:World)(htab:Lib.TabIs prog w "internal/strconv.uint64pow10" .u64 Lib.pow10Tab):
 Calls prog 125 #[.int .i64 n] w λe w'=>e=.returned (.string ⟨(Lib.itoa n).toArray⟩)/\∃k os,w'=grow (w.drewN k) os:=Any.strconv_Itoa N4 n h0 h1 w htab
theorem DW{S:Nat->Prop}{ρ:eJ}{w:World}{a:AV U El}{vs:Array Value}(h:pb E S ρ w [a] vs):∃v,vs=#[v]/\Rel E S ρ w a v:=by
 obtain⟨h1,h2⟩:=h;match vs,h1,h2 with
 |⟨[v]⟩,_,h2=>exact⟨v,rfl,h2 0 a v rfl rfl⟩
theorem Kn{S:Nat->Prop}{ρ:eJ}{w:World}{a b:AV U El}{vs:Array Value}(h:pb E S ρ w [a,b] vs):∃v u,vs=#[v,u]/\Rel E S ρ w a v/\Rel E S ρ w b u:=by
 obtain⟨h1,h2⟩:=h;match vs,h1,h2 with
 |⟨[v,u]⟩,_,h2=>exact⟨v,u,rfl,h2 0 a v rfl rfl,h2 1 b u rfl rfl⟩
theorem Es(w:World)(k:Nat)(os:Array Obj)(g:Nat)(h:g<w.heap.size):(grow (w.drewN k) os).heap[g]?=w.heap[g]?:=by show(w.heap++os)[g]?=_;rw[gF h]
theorem xB(w:World)(k:Nat)(os:Array Obj):w.heap.size<=(grow (w.drewN k) os).heap.size:=by
 show w.heap.size<=(w.heap++os).size;rw[Array.size_append]
 omega
namespace itoa
def sp:Sp U El:=λargs k=>match args with
 |[.int .i64 n]=>aU (bg (-9223372036854775808) n&&bg n 9223372036854775807) (k (.str (Lib.itoa n)) [])
 |_=>none
theorem spec(n:Int)(h0: -9223372036854775808<=n)(h1:n<=9223372036854775807):cV prog E 125 [.int .i64 n] (.str (Lib.itoa n)) []:=by
 refine⟨call125,(λid b h=>by cases h),λS w vs hlt hG hr=>?_⟩
 obtain⟨v1,rfl,r1⟩:=DW hr;cases r1;refine(strconv_Itoa n h0 h1 w hG.1).mono ?_;rintro e w' ⟨rfl,k,os,rfl⟩
 refine⟨_,S,_,rfl,⟨⟨rfl,rfl,rfl,xB w k os,λ_=>lI _ _,λj hj _=>Es w k os j hj⟩,λ_ h=>h,λ_ h=>.inl h,λ_ _ h=>h,hlt⟩,fa.nil (λb hb=>fk (hlt b hb) (xB w k os)) _,.str _⟩
theorem du:gQ prog E 125 sp where
 pe:=λvs=>by
  unfold sp;split
  ·exact kK _ _ _
  ·exact⟨none,λ_=>rfl⟩
 ok:=λvs k r h=>by
  unfold sp at h;split at h
  ·rename_i n;obtain⟨h1,h2⟩:=aQ h;simp only[aj,bg,decide_eq_true_eq]at h1;exact⟨_,_,.inl (spec n h1.1 h1.2),h2⟩
  ·cases h
end itoa
def tw:Go.Shelf.Ren:=⟨λ|129=>314|171=>125|172=>298|205=>448|243=>199|244=>358|245=>359|246=>253|247=>413|279=>414|280=>415|281=>416|282=>417|283=>320|284=>321|285=>322|286=>323|287=>446|316=>447|317=>374|318=>375|319=>376|320=>377|321=>466|322=>467|337=>428|338=>429|n=>n,λ|0=>0|2=>2|3=>3|4=>4|5=>5|9=>9|20=>20|21=>21|37=>47|46=>177|51=>261|53=>243|75=>274|76=>275|80=>206|85=>475|127=>348|143=>519|145=>521|167=>474|168=>477|171=>401|173=>403|175=>499|210=>503|212=>444|213=>445|232=>508|233=>509|n=>n,λ|1=>2|3=>3|4=>4|15=>6|16=>7|17=>5|18=>8|19=>9|n=>n⟩
theorem OL:Go.Proofs.Lays.n172 prog tw:={
 mixed:=aa
 f129:=func314.trans (congrArg some aa)
 f171:=func125.trans (congrArg some aa)
 f172:=func298.trans (congrArg some aa)
 f205:=func448.trans (congrArg some aa)
 f243:=func199.trans (congrArg some aa)
 f244:=func358.trans (congrArg some aa)
 f245:=func359.trans (congrArg some aa)
 f246:=func253.trans (congrArg some aa)
 f247:=func413.trans (congrArg some aa)
 f279:=func414.trans (congrArg some aa)
 f280:=func415.trans (congrArg some aa)
 f281:=func416.trans (congrArg some aa)
 f282:=func417.trans (congrArg some aa)
 f283:=func320.trans (congrArg some aa)
 f284:=func321.trans (congrArg some aa)
 f285:=func322.trans (congrArg some aa)
 f286:=func323.trans (congrArg some aa)
 f287:=func446.trans (congrArg some aa)
 f316:=func447.trans (congrArg some aa)
 f317:=func374.trans (congrArg some aa)
 f318:=func375.trans (congrArg some aa)
 f319:=func376.trans (congrArg some aa)
 f320:=func377.trans (congrArg some aa)
 f321:=func466.trans (congrArg some aa)
 f322:=func467.trans (congrArg some aa)
 f337:=func428.trans (congrArg some aa)
 f338:=func429.trans (congrArg some aa)
 t0:=underlying0
 a0:=isAgg0
 z0:=sizeOf0
 v0:=zeroValue0
 t2:=underlying2
 a2:=isAgg2
 z2:=sizeOf2
 v2:=zeroValue2
 t3:=underlying3
 a3:=isAgg3
 z3:=sizeOf3
 v3:=zeroValue3
 t4:=underlying4
 a4:=isAgg4
 z4:=sizeOf4
 v4:=zeroValue4
 t5:=underlying5
 a5:=isAgg5
 z5:=sizeOf5
 v5:=zeroValue5
 t9:=underlying9
 a9:=isAgg9
 z9:=sizeOf9
 v9:=zeroValue9
 t20:=underlying20
 a20:=isAgg20
 z20:=sizeOf20
 v20:=zeroValue20
 t21:=underlying21
 a21:=isAgg21
 z21:=sizeOf21
 v21:=zeroValue21
 t37:=underlying47
 a37:=isAgg47
 z37:=sizeOf47
 v37:=zeroValue47
 t46:=underlying177
 a46:=isAgg177
 z46:=sizeOf177
 v46:=zeroValue177
 t51:=underlying261
 a51:=isAgg261
 z51:=sizeOf261
 v51:=zeroValue261
 t53:=underlying243
 a53:=isAgg243
 z53:=sizeOf243
 v53:=zeroValue243
 t75:=underlying274
 a75:=isAgg274
 z75:=sizeOf274
 v75:=zeroValue274
 t76:=underlying275
 a76:=isAgg275
 z76:=sizeOf275
 v76:=zeroValue275
 t85:=underlying475
 a85:=isAgg475
 z85:=sizeOf475
 v85:=zeroValue475
 t127:=underlying348
 a127:=isAgg348
 z127:=sizeOf348
 v127:=zeroValue348
 t143:=underlying519
 a143:=isAgg519
 z143:=sizeOf519
 v143:=zeroValue519
 t145:=underlying521
 a145:=isAgg521
 z145:=sizeOf521
 v145:=zeroValue521
 t167:=underlying474
 a167:=isAgg474
 z167:=sizeOf474
 v167:=zeroValue474
 t168:=underlying477
 a168:=isAgg477
 z168:=sizeOf477
 v168:=zeroValue477
 t171:=underlying401
 a171:=isAgg401
 z171:=sizeOf401
 v171:=zeroValue401
 t173:=underlying403
 a173:=isAgg403
 z173:=sizeOf403
 v173:=zeroValue403
 t175:=underlying499
 a175:=isAgg499
 z175:=sizeOf499
 v175:=zeroValue499
 t210:=underlying503
 a210:=isAgg503
 z210:=sizeOf503
 v210:=zeroValue503
 t212:=underlying444
 a212:=isAgg444
 z212:=sizeOf444
 v212:=zeroValue444
 t213:=underlying445
 a213:=isAgg445
 z213:=sizeOf445
 t232:=underlying508
 a232:=isAgg508
 z232:=sizeOf508
 v232:=zeroValue508
 t233:=underlying509
 a233:=isAgg509
 z233:=sizeOf509
 v233:=zeroValue509
 g15:=aa
 g16:=aa
 g17:=aa
 g18:=aa
 g19:=aa
}
def Iv(s:ah UInt8):Int:=(Lib.atoi s).getD 0
def GX(s:ah UInt8):Bool:=bU s.length 18&&(Lib.atoi s).isSome
namespace atoi
def sp:Sp U El:=λargs k=>match args with
 |[.str s]=>aU (GX s) (k (.bP [.int .i64 (Iv s),.lN]) [])
 |_=>none
open Go.RowKit Go.Sort Go.Lib in
theorem spec(s:ah UInt8)(h:GX s=true):cV prog E 298 [.str s] (.bP [.int .i64 (Iv s),.lN]) []:=by
 refine⟨call298,(λid b h=>by cases h),λS w vs hlt hG hr=>?_⟩
 obtain⟨v1,rfl,r1⟩:=DW hr;cases r1;simp only[GX,aj,bU,decide_eq_true_eq]at h;obtain⟨h1,h2⟩:=h;obtain⟨n,hn⟩:=g'.1 h2;have hv:Iv s=n:=by unfold Iv;rw[hn];rfl
 refine(Any.strconv_Atoi OL ⟨s.toArray⟩ n (by simpa[ByteArray.size]using h1) (by simpa using hn) w).mono ?_;rintro e w' ⟨rfl,t,rfl⟩
 have hsz:w.heap.size<=(Lib.bytesWorld w (tw.t 5) t).heap.size:=by rw[Lib.bytesWorld_size];omega
 have hb:=Lib.bytesWorld_below w (tw.t 5) t;refine⟨_,S,_,rfl,⟨⟨hb.os,hb.tape,hb.output,hsz,λ_=>Nat.le_succ _,λj hj _=>Lib.bytesWorld_at_old w _ t j hj⟩,λ_ h=>h,λ_ h=>.inl h,λ_ _ h=>h,hlt⟩,fa.nil (λb hb=>fk (hlt b hb) hsz) _,?_⟩
 ·rw[hv]
  refine .bP _ _ rfl λi c v hc eC=>?_
  match i,hc,eC with
  |0,hc,eC=>cases hc;cases eC;exact .int _ _
  |1,hc,eC=>cases hc;cases eC;exact .lN
theorem du:gQ prog E 298 sp where
 pe:=λvs=>by
  unfold sp;split
  ·exact kK _ _ _
  ·exact⟨none,λ_=>rfl⟩
 ok:=λvs k r h=>by
  unfold sp at h;split at h
  ·rename_i s;obtain⟨h1,h2⟩:=aQ h;exact⟨_,_,.inl (spec s h1),h2⟩
  ·cases h
end atoi
def Cf:Go.Shelf.Ren:=⟨λ|138=>195|143=>196|146=>64|195=>249|197=>250|217=>316|218=>251|219=>252|221=>120|224=>318|225=>317|260=>315|266=>372|267=>319|268=>194|314=>373|n=>n,λ|0=>0|3=>3|4=>4|5=>5|9=>9|21=>21|31=>76|46=>177|51=>261|105=>331|119=>438|138=>440|139=>441|146=>262|n=>n,λ|1=>2|3=>3|4=>4|15=>6|16=>7|17=>5|18=>8|19=>9|n=>n⟩
theorem KD:Go.Proofs.Lays.n146 prog Cf:={
 mixed:=aa
 f138:=func195.trans (congrArg some aa)
 f143:=func196.trans (congrArg some aa)
 f146:=func64.trans (congrArg some aa)
 f195:=func249.trans (congrArg some aa)
 f197:=func250.trans (congrArg some aa)
 f217:=func316.trans (congrArg some aa)
 f218:=func251.trans (congrArg some aa)
 f219:=func252.trans (congrArg some aa)
 f221:=func120.trans (congrArg some aa)
 f224:=func318.trans (congrArg some aa)
 f225:=func317.trans (congrArg some aa)
 f260:=func315.trans (congrArg some aa)
 f266:=func372.trans (congrArg some aa)
 f267:=func319.trans (congrArg some aa)
 f268:=func194.trans (congrArg some aa)
 f314:=func373.trans (congrArg some aa)
 t0:=underlying0
 a0:=isAgg0
 z0:=sizeOf0
 v0:=zeroValue0
 t3:=underlying3
 a3:=isAgg3
 z3:=sizeOf3
 v3:=zeroValue3
 t4:=underlying4
 a4:=isAgg4
 z4:=sizeOf4
 v4:=zeroValue4
 t5:=underlying5
 a5:=isAgg5
 z5:=sizeOf5
 v5:=zeroValue5
 t9:=underlying9
 a9:=isAgg9
 z9:=sizeOf9
 v9:=zeroValue9
 t21:=underlying21
 a21:=isAgg21
 z21:=sizeOf21
 v21:=zeroValue21
 t31:=underlying76
 a31:=isAgg76
 z31:=sizeOf76
 v31:=zeroValue76
 t46:=underlying177
 a46:=isAgg177
 z46:=sizeOf177
 v46:=zeroValue177
 t51:=underlying261
 a51:=isAgg261
 z51:=sizeOf261
 v51:=zeroValue261
 t105:=underlying331
 a105:=isAgg331
 z105:=sizeOf331
 v105:=zeroValue331
 t119:=underlying438
 a119:=isAgg438
 z119:=sizeOf438
 t138:=underlying440
 a138:=isAgg440
 z138:=sizeOf440
 v138:=zeroValue440
 t139:=underlying441
 a139:=isAgg441
 z139:=sizeOf441
 v139:=zeroValue441
 t146:=underlying262
 a146:=isAgg262
 z146:=sizeOf262
 v146:=zeroValue262
 g1:=aa
 g3:=aa
 g4:=aa
}
def GN:Go.Shelf.Ren:=⟨λ|145=>297|217=>316|219=>252|220=>357|224=>318|225=>317|266=>372|267=>319|314=>373|n=>n,λ|3=>3|4=>4|5=>5|9=>9|46=>177|51=>261|59=>383|146=>262|n=>n,λ|1=>2|3=>3|4=>4|15=>6|16=>7|17=>5|18=>8|19=>9|n=>n⟩
theorem Rh:Go.Proofs.Lays.n145 prog GN:={
 mixed:=aa
 f145:=func297.trans (congrArg some aa)
 f217:=func316.trans (congrArg some aa)
 f219:=func252.trans (congrArg some aa)
 f220:=func357.trans (congrArg some aa)
 f224:=func318.trans (congrArg some aa)
 f225:=func317.trans (congrArg some aa)
 f266:=func372.trans (congrArg some aa)
 f267:=func319.trans (congrArg some aa)
 f314:=func373.trans (congrArg some aa)
 t3:=underlying3
 a3:=isAgg3
 z3:=sizeOf3
 v3:=zeroValue3
 t4:=underlying4
 a4:=isAgg4
 z4:=sizeOf4
 v4:=zeroValue4
 t5:=underlying5
 a5:=isAgg5
 z5:=sizeOf5
 v5:=zeroValue5
 t9:=underlying9
 a9:=isAgg9
 z9:=sizeOf9
 v9:=zeroValue9
 t46:=underlying177
 a46:=isAgg177
 z46:=sizeOf177
 v46:=zeroValue177
 t51:=underlying261
 a51:=isAgg261
 z51:=sizeOf261
 v51:=zeroValue261
 t59:=underlying383
 a59:=isAgg383
 z59:=sizeOf383
 v59:=zeroValue383
 t146:=underlying262
 a146:=isAgg262
 z146:=sizeOf262
 v146:=zeroValue262
 g1:=aa
}
def tS(s sep:ah UInt8)(sv:Nat):ah (ah UInt8):=Lib.splitK sep sv (Lib.countB ⟨s.toArray⟩ ⟨sep.toArray⟩) s
theorem JQ(w:World)(cs:Array Value)(e:TypeId)(i:Nat)(v:Value)(h:cs[i]?=some v):(w.alloc (.cells cs e)).cell? ⟨w.heap.size,i,none⟩=some v:=by simp[World.cell?,World.alloc,-World.alloc_eq,h]
namespace Gs
def sp:Sp U El:=λargs k=>match args with
 |[.str s,.str sep,.int .i64 sv,.int .i64 n]=>aU ((n== -1)&&(bg 0 sv&&(bg sv (Int.ofNat sep.length)&&(bU s.length 300000&&lU 0 sep.length)))) (k (.au .str (tS s sep sv.toNat)) [])
 |_=>none
theorem spec(s sep:ah UInt8)(sv:Nat)(h0:s.length<=300000)(h1:0<sep.length)(h2:sv<=sep.length):cV prog E 120 [.str s,.str sep,.int .i64 (sv:Int),.int .i64 (-1)] (.au .str (tS s sep sv)) []:=by
 refine⟨call120,(λid b h=>by cases h),λS w vs hlt hG hr=>?_⟩
 obtain⟨hsz,hrel⟩:=hr;obtain⟨v1,v2,v3,v4,rfl,r1,r2,r3,r4⟩:∃v1 v2 v3 v4,vs=#[v1,v2,v3,v4]/\Rel E S (λ_=>none) w (.str s) v1/\Rel E S (λ_=>none) w (.str sep) v2/\Rel E S (λ_=>none) w (.int .i64 (sv:Int)) v3/\Rel E S (λ_=>none) w (.int .i64 (-1)) v4:=by
  match vs,hsz,hrel with
  |⟨[a,b,c,d]⟩,_,hrel=>exact⟨a,b,c,d,rfl,hrel 0 _ a rfl rfl,hrel 1 _ b rfl rfl,hrel 2 _ c rfl rfl,hrel 3 _ d rfl rfl⟩
 cases r1;cases r2;cases r3;cases r4;obtain⟨m,hm⟩:=hG.2;have RM:=Lib.countB_le (⟨sep.toArray⟩:ByteArray) (by simp[ByteArray.size];omega) (⟨s.toArray⟩:ByteArray).size ⟨s.toArray⟩ (aY _)
 have hall:=Lib.splitB_all (⟨sep.toArray⟩:ByteArray) (by simp[ByteArray.size];omega) sv _ (⟨s.toArray⟩:ByteArray) rfl;refine(Any.strings_genSplit {KD with} aa (⟨s.toArray⟩:ByteArray) ⟨sep.toArray⟩ sv (-1) (Lib.countB ⟨s.toArray⟩ ⟨sep.toArray⟩+1) m w (by simp[ByteArray.size];omega) hm (by simp[ByteArray.size];omega) (by simp[ByteArray.size];omega) af af (by rw[if_pos af];omega)).mono ?_;rw[Nat.add_sub_cancel,hall]
 rintro e w' ⟨rfl,rfl⟩
 have e2:Lib.cellsOf (Lib.splitB ⟨sep.toArray⟩ sv (Lib.countB ⟨s.toArray⟩ ⟨sep.toArray⟩) ⟨s.toArray⟩) (Lib.countB ⟨s.toArray⟩ ⟨sep.toArray⟩+1)=((Lib.splitB ⟨sep.toArray⟩ sv (Lib.countB ⟨s.toArray⟩ ⟨sep.toArray⟩) ⟨s.toArray⟩).map Value.string).toArray:=by rw[<-hall];exact Lib.cellsOf_full _
 rw[e2]
 have XB:=Lib.splitB_data (⟨sep.toArray⟩:ByteArray) sv (Lib.countB ⟨s.toArray⟩ ⟨sep.toArray⟩) (⟨s.toArray⟩:ByteArray)
 have Pp:tS s sep sv=(Lib.splitB (⟨sep.toArray⟩:ByteArray) sv (Lib.countB ⟨s.toArray⟩ ⟨sep.toArray⟩) (⟨s.toArray⟩:ByteArray)).map (·.data.toList):=XB.symm;generalize Lib.splitB (⟨sep.toArray⟩:ByteArray) sv (Lib.countB ⟨s.toArray⟩ ⟨sep.toArray⟩) (⟨s.toArray⟩:ByteArray)=bs at hall Pp⊢;have hlen:(tS s sep sv).length=Lib.countB ⟨s.toArray⟩ ⟨sep.toArray⟩+1:=by rw[Pp,gk,hall]
 have nI:∀(i:Nat) (x:ah UInt8),(tS s sep sv)[i]?=some x->∃hi:i<bs.length,x=bs[i].data.toList:=λi x hx=>by
  have hi:i<bs.length:=by
   have:=(ak.1 hx).1;rw[Pp,gk]at this;exact this
  refine⟨hi,?_⟩
  rw[Pp,bo,az hi]at hx;exact(ez hx).symm
 rw[<-hlen]
 refine⟨_,λb=>S b\/b=w.heap.size,λ_=>none,rfl,⟨⟨rfl,rfl,rfl,ae,λ_=>aY _,λj hj _=>Go.RowKit.Below.heap_alloc w _ j hj⟩,λ_ h=>.inl h,λb hb=>hb.elim .inl λe=>.inr ab,λ_ _ h=>h,hlt⟩,fa.nil (λb hb=>?_) _,Rel.au (E:=E) U.str (tS s sep sv) w.heap.size 0 _ (λi _=>.string (bs.getD i ⟨#[]⟩)) (Or.inr rfl) (aY _) (λi x j c hx hc=>?_) (λi x j c hx hc=>?_)⟩
 ·rcases hb with hb|rfl
  ·have:=hlt b hb;simp;omega
  ·simp
 ·have hj:j=0/\c=.str x:=by
   match j,hc with
   |0,hc=>cases hc;exact⟨rfl,rfl⟩
   |j+1,hc=>simp[E]at hc
  obtain⟨rfl,rfl⟩:=hj;obtain⟨hi,_⟩:=nI i x hx;show World.cell? _ ⟨w.heap.size,0+i*1+0,none⟩=_;rw[show 0+i*1+0=i by omega]
  refine JQ w _ _ i _ ?_;rw[cZ,bo,az hi,List.getD,az hi]
  rfl
 ·have hj:j=0/\c=.str x:=by
   match j,hc with
   |0,hc=>cases hc;exact⟨rfl,rfl⟩
   |j+1,hc=>simp[E]at hc
  obtain⟨rfl,rfl⟩:=hj;obtain⟨hi,Bk⟩:=nI i x hx;have hg:bs.getD i ⟨#[]⟩=⟨x.toArray⟩:=by rw[Bk,List.getD,az hi];rfl
  show Rel E _ _ _ (.str x) (.string (bs.getD i ⟨#[]⟩))
  rw[hg]
  exact .str _
theorem du:gQ prog E 120 sp where
 pe:=λvs=>by
  unfold sp;split
  ·exact kK _ _ _
  ·exact⟨none,λ_=>rfl⟩
 ok:=λvs k r h=>by
  unfold sp at h;split at h
  ·rename_i s sep sv n;obtain⟨h1,h2⟩:=aQ h;simp only[aj,bg,decide_eq_true_eq,beq_iff_eq]at h1;obtain⟨rfl,h3,h4,h5,h6⟩:=h1;obtain⟨sv,rfl⟩:=bC h3;exact⟨_,_,.inl (spec s sep sv (ia h5) (of_decide_eq_true h6) (by have:(sv:Int)<=(sep.length:Int):=h4;omega)),h2⟩
  ·cases h
end Gs
namespace Rg
def sp:Sp U El:=λargs k=>match args with
 |[.str s,.str sep]=>aU (bU s.length 300000) (k (.bP [.str (Lib.cut s sep).1,.str (Lib.cut s sep).2.1,.bool (Lib.cut s sep).2.2]) [])
 |_=>none
theorem spec(s sep:ah UInt8)(h0:s.length<=300000):cV prog E 297 [.str s,.str sep] (.bP [(.str (Lib.cut s sep).1),(.str (Lib.cut s sep).2.1),(.bool (Lib.cut s sep).2.2)]) []:=by
 refine⟨call297,(λid b h=>by cases h),λS w vs hlt hG hr=>?_⟩
 obtain⟨v1,v2,rfl,r1,r2⟩:=Kn hr;cases r1;cases r2;obtain⟨m,hm⟩:=hG.2;refine(Any.strings_Cut Rh (⟨s.toArray⟩:ByteArray) ⟨sep.toArray⟩ m w (by simp[ByteArray.size];omega) hm).mono ?_;rintro e w' ⟨rfl,n,rfl⟩
 refine⟨_,S,_,rfl,⟨⟨rfl,rfl,rfl,aY _,λ_=>lI _ _,λj hj _=>rfl⟩,λ_ h=>h,λ_ h=>.inl h,λ_ _ h=>h,hlt⟩,fa.nil (w:=w.drewN n) (λb hb=>hlt b hb) _,.bP _ _ rfl λi c v hc hv=>?_⟩
 match i,hc,hv with
 |0,hc,hv=>cases hc;cases hv;exact .str _
 |1,hc,hv=>cases hc;cases hv;exact .str _
 |2,hc,hv=>cases hc;cases hv;exact .bool _
theorem du:gQ prog E 297 sp where
 pe:=λvs=>by
  unfold sp;split
  ·exact kK _ _ _
  ·exact⟨none,λ_=>rfl⟩
 ok:=λvs k r h=>by
  unfold sp at h;split at h
  ·rename_i s sep;obtain⟨h1,h2⟩:=aQ h;exact⟨_,_,.inl (spec s sep (ia h1)),h2⟩
  ·cases h
end Rg
end
end Go.Proofs.YtfmamkmmohilgaaGreatDoor
namespace Go.Proofs.YtfmamkmmohilgaaGreatDoor
open Go.Proofs.Tryz IntKind
set_option linter.all false
set_option maxRecDepth 100000
open Go.RowKit
noncomputable section
attribute [local go_sem] Oper.semAt_some
namespace rep
theorem I'(w:World):Calls prog 119 #[.int .u64 1,.int .u64 4] w λe w'=>e=.returned (.tuple #[.int .u64 0,.int .u64 4])/\w'=w:=by
 go_enter func119,ntmps119
 go_wp2_with (go_at_call 191;refine(Any.bits_Mul64 D4 1 4 ab ab w).mono ?_;rintro e w' ⟨rfl,rfl⟩)
 exact bodyPost_ret (v:=.tuple #[.int .u64 0,.int .u64 4]) (by simp[results,results119,go_sem]) rfl ⟨rfl,rfl⟩
abbrev ar(a b c d:Int):Array Value:=#[.int .i64 a,.int .i64 b,.int .i64 c,.int .i64 d]
theorem CW{w:World}{n o l1 c1 l2 c2:Nat}{a:Addr}{cur:Array Value}{cs:ah Value}(hg:w.heap[n]?=some (.cells cur 3 (0,0)))(hn:cs.length=Nat.min l2 l1)
 (QF:∀j v,cs[j]?=some v->w.cell? (a.add j)=some v) (uS:o+cs.length<=cur.size) (h1:∀v∈cs,v.oneCell'=true):
 (Builtin.copy_ #[28,28] 3 #[.slice (some ⟨n,o,none⟩) l1 c1,.slice (some a) l2 c2]).run prog w=.ok (goInt cs.length) (w.setRow n (cur.toList.take o++cs++cur.toList.drop (o+cs.length)).toArray):=
 run_copy_row prog w _ _ _ 3 n o l1 c1 a l2 c2 cur 3 cs underlying28 aa hg hn QF uS h1
theorem NB(b off cap:Nat)(x:Int)(w:World)(hb:b<w.heap.size)(hc:w.cell? ⟨b,off,none⟩=some (.int .i64 x)):
 Calls prog 63 #[.slice (some ⟨b,off,none⟩) 1 cap,.int .i64 4] w λe w'=>e=.returned (.slice (some ⟨w.heap.size,0,none⟩) 4 4)/\Below w.heap.size w w'/\w'.heap[w.heap.size]?=some (.cells (ar x x x x) 3 (0,0)):=by
 obtain⟨n,hn⟩:∃n,n=w.heap.size:=⟨_,rfl⟩
 rw[<-hn]
 obtain⟨W1,hW1⟩:∃W1:World,W1=w.alloc (.cells (ar 0 0 0 0) 3):=⟨_,rfl⟩
 have g1:W1.heap[n]?=some (.cells (ar 0 0 0 0) 3 (0,0)):=by rw[hW1,hn];exact heap_alloc_new w _
 have Xg:(Instr.makeSlice 28 (.int .i64 4) (.int .i64 4)).run prog w=.ok (.slice (some ⟨n,0,none⟩) 4 4) W1:=by
  have:=run_make (P:=prog) w 28 3 t3 (.int .i64 0) underlying28 type3 rfl .i64 .i64 4 4 af af af af
  have hm:madeCells (Value.int .i64 0).cells (Int.toNat 4*t3.size)=ar 0 0 0 0:=aa
  rw[hm]at this;rw[this,hW1,hn]
  rfl
 have b1:Below w.heap.size w W1:=by rw[hW1];exact Below.alloc (Below.refl _ _) (aY _) _
 have c1:W1.cell? ⟨b,off,none⟩=some (.int .i64 x):=by rw[hW1,World.cell?_alloc_old _ _ _ (Nat.ne_of_lt hb)];exact hc
 obtain⟨W2,hW2⟩:∃W2,W2=W1.setRow n (ar x 0 0 0):=⟨_,rfl⟩
 have g2:W2.drew.heap[n]?=some (.cells (ar x 0 0 0) 3 (0,0)):=by rw[hW2];exact setRow_heap W1 n _ _ _ _ g1
 have k1:(Builtin.copy_ #[28,28] 3 #[.slice (some ⟨n,0,none⟩) 4 4,.slice (some ⟨b,off,none⟩) 1 cap]).run prog W1=.ok (.int .i64 1) W2:=by
  rw[hW2]
  exact CW (cs:=[.int .i64 x]) g1 rfl (λj v hj=>by
   match j,hj with
   |0,hj=>cases hj;exact c1) (by simp[ar]) (λv hv=>by rw[cz.1 hv];rfl)
 obtain⟨W3,hW3⟩:∃W3,W3=W2.drew.setRow n (ar x x 0 0):=⟨_,rfl⟩
 have g3:W3.drew.heap[n]?=some (.cells (ar x x 0 0) 3 (0,0)):=by rw[hW3];exact setRow_heap W2.drew n _ _ _ _ g2
 have cell:∀{W:World} {cs:Array Value} {j:Nat} {v:Value},W.heap[n]?=some (.cells cs 3 (0,0))->cs[j]?=some v->W.cell? ⟨n,j,none⟩=some v:=λh h'=>by simp[World.cell?,h,h']
 have k2:(Builtin.copy_ #[28,28] 3 #[.slice (some ⟨n,1,none⟩) 3 3,.slice (some ⟨n,0,none⟩) 1 4]).run prog W2.drew=.ok (.int .i64 1) W3:=by
  rw[hW3]
  exact CW (cs:=[.int .i64 x]) g2 rfl (λj v hj=>by
   match j,hj with
   |0,hj=>cases hj;exact cell g2 rfl) (by simp[ar]) (λv hv=>by rw[cz.1 hv];rfl)
 obtain⟨W4,VE⟩:∃W4,W4=W3.drew.setRow n (ar x x x x):=⟨_,rfl⟩
 have g4:W4.heap[n]?=some (.cells (ar x x x x) 3 (0,0)):=by rw[VE];exact setRow_heap W3.drew n _ _ _ _ g3
 have k3:(Builtin.copy_ #[28,28] 3 #[.slice (some ⟨n,2,none⟩) 2 2,.slice (some ⟨n,0,none⟩) 2 4]).run prog W3.drew=.ok (.int .i64 2) W4:=by
  rw[VE]
  exact CW (cs:=[.int .i64 x,.int .i64 x]) g3 rfl (λj v hj=>by
   match j,hj with
   |0,hj=>cases hj;exact cell g3 rfl
   |1,hj=>cases hj;exact cell g3 rfl) (by simp[ar]) (λv hv=>by
   rcases bN.1 hv with e|hv
   ·rw[e];rfl
   ·rw[cz.1 hv];rfl)
 have hB:Below w.heap.size w W4:=by
  have s2:Below w.heap.size w W2.drew:=by
   rw[hW2]
   exact⟨b1.os,b1.tape,b1.output,ck b1.size (by show _<=(W1.setRow n _).heap.size;simp),λk hk=>(setRow_other W1 n k _ ab).trans (b1.block k hk)⟩
  have s3:Below w.heap.size w W3.drew:=by
   rw[hW3]
   exact⟨s2.os,s2.tape,s2.output,ck s2.size (by show _<=(W2.drew.setRow n _).heap.size;simp),λk hk=>(setRow_other W2.drew n k _ ab).trans (s2.block k hk)⟩
  rw[VE]
  exact⟨s3.os,s3.tape,s3.output,ck s3.size (by show _<=(W3.drew.setRow n _).heap.size;simp),λk hk=>(setRow_other W3.drew n k _ ab).trans (s3.block k hk)⟩
 rw[<-hn]at hB;clear hW1 hW2 hW3 VE g1 g2 g3 c1 b1 hc hn cell
 go_enter func63,ntmps63
 go_wp2_with (go_at_call 119;refine(I' _).mono ?_;rintro e w1 ⟨rfl,rfl⟩)
 refine wp_loop_rounds 4 ?_;rw[rounds_succ]
 go_wp2
 go_region
 show Code.rounds _ _ _ 3 _ _;rw[rounds_succ]
 go_wp2
 go_region
 show Code.rounds _ _ _ 2 _ _;rw[rounds_succ]
 go_wp2
 exact bodyPost_ret (v:=.slice (some ⟨n,0,none⟩) 4 4) (by simp[results,results63,go_sem]) rfl ⟨rfl,hB,g4⟩
theorem spec(x:Int):cV prog E 63 [.au .int ([x]:ah Int),.int .i64 4] (.cf 0) [(0,.rows .int ([x,x,x,x]:ah Int))]:=by
 refine⟨call63,(λid b h=>?_),λS w vs hlt hG hr=>?_⟩
 ·simp only[aN]at h;by_cases e:0=id
  ·omega
  ·rw[aO e]at h;cases h
 obtain⟨v1,v2,rfl,r1,r2⟩:=SE hr;cases r2;cases r1 with
 |au _ _ b off cap val hS hc hcell h=>
  have h0:=hcell 0 x 0 (.int .i64 x) rfl rfl;have h1:=h 0 x 0 (.int .i64 x) rfl rfl;have h0':w.cell? ⟨b,off,none⟩=some (val 0 0):=h0;generalize val 0 0=u at h0' h1;cases h1;refine(NB b off cap x w (hlt b hS) h0').mono ?_;rintro e w' ⟨rfl,hB,hg⟩
  have hsz:=(aX.1 hg).1;refine⟨_,S,λi=>if i=0 then some ⟨w.heap.size,4,1,4⟩else none,rfl,⟨⟨hB.os,hB.tape,hB.output,hB.size,λd=>d.elim,λj hj _=>hB.block j hj⟩,λ_ h=>h,λ_ h=>.inl h,(λ_ _ h=>by cases h),hlt⟩,⟨λid b Vy=>?_,λi j b b' l l' hi hj gn=>?_,λb hb=>fk (hlt b hb) hB.size⟩,.cf 0 4 ⟨w.heap.size,4,1,4⟩ rfl (aY _) (aY _)⟩
  ·simp only[aN]at Vy;by_cases e:0=id
   ·subst e;cases Vy;refine⟨_,rfl,rfl,rfl,(show 4*1<=4 by decide),λ_=>⟨aY _,λhk=>by have:=hlt _ hk;simp at this,_,hg,rfl,λi y j a hi hj=>?_⟩⟩
    have xI:([.int .i64 y]:ah (AV U El))[j]?=some a:=hj;have hy:([x,x,x,x]:ah Int)[i]?=some y:=hi;match j,xI with
    |0,xI=>
     cases xI;match i,hy with
     |0,hy=>cases hy;exact⟨_,rfl,.int _ _⟩
     |1,hy=>cases hy;exact⟨_,rfl,.int _ _⟩
     |2,hy=>cases hy;exact⟨_,rfl,.int _ _⟩
     |3,hy=>cases hy;exact⟨_,rfl,.int _ _⟩
   ·rw[aO e]at Vy;cases Vy
  ·simp only[aN]at hi hj;by_cases e:0=i
   ·by_cases e':0=j
    ·exact absurd (e.symm.trans e') gn
    ·rw[aO e']at hj;cases hj
   ·rw[aO e]at hi;cases hi
def sp:Sp U El:=λargs k=>match args with
 |[.au .int [x],.int .i64 n]=>aU (n==4) (k (.cf 0) [(0,.rows .int ([x,x,x,x]:ah Int))])
 |_=>none
theorem du:gQ prog E 63 sp where
 pe:=λvs=>by
  unfold sp;split
  ·exact kK _ _ _
  ·exact⟨none,λ_=>rfl⟩
 ok:=λvs k r h=>by
  unfold sp at h;split at h
  ·rename_i x n;obtain⟨h1,h2⟩:=aQ h;obtain rfl:n=4:=by simpa using h1
   exact⟨_,_,.inl (spec x),h2⟩
  ·cases h
end rep
end
end Go.Proofs.YtfmamkmmohilgaaGreatDoor
namespace Go.Proofs.YtfmamkmmohilgaaGreatDoor
open Go.Proofs.Tryz IntKind
set_option linter.all false
set_option maxRecDepth 100000
noncomputable section
namespace Mq
variable(l:ah Node)
def X:=dp [] 8
def fM:Norm U:=⟨[(2,.node)],[2],[2],[],[],[],[]⟩
def f0:R:=ai (lU 0 l.length) (aU (bU ((List.length ([]:ah Node)+List.length l)*96) 140737488355328&&bU (List.length ([]:ah Node)+List.length l) 9223372036854775807) (some (.cf 0,[(0,.rows .node (([]:ah Node)++l))]))) (J2 (some (.cf 0,[(0,.rows .node ([]:ah Node))])) (aU (bU ((List.length ([]:ah Node)+List.length l)*96) 140737488355328&&bU (List.length ([]:ah Node)+List.length l) 9223372036854775807) (some (.cf 0,[(0,.rows .node (([]:ah Node)++l))]))))
theorem run:ca X (dG f344) .d fM [2] [2] [.au .node l]=f0 l:=aa
theorem aw(h:(bU l.length 90000)=true):f0 l=some (.cf 0,[(0,.rows .node l)]):=by
 have hl:=ia h;unfold f0;rw[c_ (show(List.length ([]:ah Node)+l.length)*96<=140737488355328 by simp;omega),c_ (show List.length ([]:ah Node)+l.length<=9223372036854775807 by simp;omega)]
 cases l with
 |nil=>exact rf _
 |cons x l=>rfl
def c:Ct:=⟨344,ko (A1 (bL .node) λl=>(bU l.length 90000,(.cf 0,[(0,.rows .node (l))]))),zw call344 func344 (a1 λl e_=>⟨(run l).trans (aw l e_),rfl⟩)⟩
end Mq
namespace Mr
variable(l:ah cJ)
def X:=dp [] 8
def fM:Norm U:=⟨[(2,.link)],[2],[2],[],[],[],[]⟩
def f0:R:=ai (lU 0 l.length) (aU (bU ((List.length ([]:ah cJ)+List.length l)*136) 140737488355328&&bU (List.length ([]:ah cJ)+List.length l) 9223372036854775807) (some (.cf 0,[(0,.rows .link (([]:ah cJ)++l))]))) (J2 (some (.cf 0,[(0,.rows .link ([]:ah cJ))])) (aU (bU ((List.length ([]:ah cJ)+List.length l)*136) 140737488355328&&bU (List.length ([]:ah cJ)+List.length l) 9223372036854775807) (some (.cf 0,[(0,.rows .link (([]:ah cJ)++l))]))))
theorem run:ca X (dG f347) .d fM [2] [2] [.au .link l]=f0 l:=aa
theorem aw(h:(bU l.length 90000)=true):f0 l=some (.cf 0,[(0,.rows .link l)]):=by
 have hl:=ia h;unfold f0;rw[c_ (show(List.length ([]:ah cJ)+l.length)*136<=140737488355328 by simp;omega),c_ (show List.length ([]:ah cJ)+l.length<=9223372036854775807 by simp;omega)]
 cases l with
 |nil=>exact rf _
 |cons x l=>rfl
def c:Ct:=⟨347,ko (A1 (bL .link) λl=>(bU l.length 90000,(.cf 0,[(0,.rows .link (l))]))),zw call347 func347 (a1 λl e_=>⟨(run l).trans (aw l e_),rfl⟩)⟩
end Mr
namespace Mp
variable(l:ah cH)
def X:=dp [] 8
def fM:Norm U:=⟨[],[2],[],[(2,.cP)],[],[],[]⟩
def f0:R:=ai (lU 0 l.length) (aU (bU ((List.length ([]:ah cH)+List.length l)*16) 140737488355328&&bU (List.length ([]:ah cH)+List.length l) 9223372036854775807) (some ((.au .cP (([]:ah cH)++l)),[]))) (J2 (some ((.au .cP ([]:ah cH)),[])) (aU (bU ((List.length ([]:ah cH)+List.length l)*16) 140737488355328&&bU (List.length ([]:ah cH)+List.length l) 9223372036854775807) (some ((.au .cP (([]:ah cH)++l)),[]))))
theorem run:ca X (dG f410) .d fM [2] [] [.au .cP l]=f0 l:=aa
theorem aw(h:(bU l.length 90000)=true):f0 l=some (.au .cP l,[]):=by
 have hl:=ia h;unfold f0;rw[c_ (show(List.length ([]:ah cH)+l.length)*16<=140737488355328 by simp;omega),c_ (show List.length ([]:ah cH)+l.length<=9223372036854775807 by simp;omega)]
 cases l with
 |nil=>exact rf _
 |cons x l=>rfl
def c:Ct:=⟨410,cj (A1 (bL .cP) λl=>(bU l.length 90000,.au .cP (l))),ir call410 func410 (a1 λl e_=>(run l).trans (aw l e_))⟩
end Mp
def fx:ah (FuncId×OU):=[(4,⟨(Tryz.f4.body).getD .skip,110,[],[0],[],false⟩),
 (10,⟨(Tryz.f10.body).getD .skip,13,[(2,49)],[13,3],[],true⟩),
 (11,⟨(Tryz.f11.body).getD .skip,85,[(4,49)],[85,5],[],true⟩),
 (15,⟨(Tryz.f15.body).getD .skip,40,[],[2,3],[0],false⟩),
 (21,⟨(f21.body).getD .skip,11,[],[2,3],[],false⟩),
 (22,⟨(f22.body).getD .skip,33,[(8,69)],[33,9],[],true⟩),
 (23,⟨(f23.body).getD .skip,3,[],[0],[],false⟩),
 (24,⟨(f24.body).getD .skip,9,[],[2],[],false⟩),
 (25,⟨(f25.body).getD .skip,26,[],[4],[],true⟩),
 (26,⟨(f26.body).getD .skip,102,[],[4,5],[],false⟩),
 (27,⟨(f27.body).getD .skip,26,[],[4],[],true⟩),
 (42,⟨(f42.body).getD .skip,97,[],[2,3],[],true⟩),
 (43,⟨(f43.body).getD .skip,34,[],[2],[],true⟩),
 (44,⟨(f44.body).getD .skip,13,[],[2],[],true⟩),
 (45,⟨(f45.body).getD .skip,8,[(2,49)],[8],[],true⟩),
 (46,⟨(f46.body).getD .skip,19,[],[2],[],true⟩),
 (48,⟨(f48.body).getD .skip,76,[],[2,3],[],true⟩),
 (49,⟨(f49.body).getD .skip,100,[(2,42)],[100,3],[],true⟩),
 (60,⟨(f60.body).getD .skip,15,[],[6],[],true⟩),
 (61,⟨(f61.body).getD .skip,33,[],[6],[],true⟩),
 (62,⟨(f62.body).getD .skip,26,[(8,69)],[26,9],[],true⟩),
 (64,⟨(f64.body).getD .skip,8,[],[4],[],true⟩),
 (65,⟨(f65.body).getD .skip,27,[],[2,3],[],true⟩),
 (66,⟨(f66.body).getD .skip,9,[],[4],[],true⟩),
 (69,⟨(f69.body).getD .skip,136,[],[4,5],[],true⟩),
 (70,⟨(f70.body).getD .skip,125,[(6,117)],[125,7,8],[],false⟩),
 (52,⟨(f52.body).getD .skip,72,[],[2],[],true⟩),
 (94,⟨(f94.body).getD .skip,24,[],[6],[],false⟩),
 (95,⟨(f95.body).getD .skip,9,[],[4],[],true⟩),
 (96,⟨(f96.body).getD .skip,11,[],[2],[],true⟩),
 (97,⟨(f97.body).getD .skip,24,[],[4],[],false⟩),
 (98,⟨(f98.body).getD .skip,42,[],[4],[],false⟩),
 (117,⟨(f117.body).getD .skip,9,[],[2],[],true⟩),
 (118,⟨(f118.body).getD .skip,90,[],[4,5],[],true⟩),
 (121,⟨(f121.body).getD .skip,19,[],[4],[],true⟩),
 (123,⟨(f123.body).getD .skip,15,[],[4,5],[],true⟩),
 (124,⟨(f124.body).getD .skip,19,[],[4,5],[],true⟩),
 (133,⟨(f133.body).getD .skip,47,[(4,117)],[47,5],[],false⟩),
 (100,⟨(f100.body).getD .skip,36,[(2,42)],[36],[],true⟩),
 (99,⟨(f99.body).getD .skip,52,[],[4],[],true⟩),
 (101,⟨(f101.body).getD .skip,9,[],[4],[],true⟩),
 (102,⟨(f102.body).getD .skip,9,[],[2],[],true⟩),
 (103,⟨(f103.body).getD .skip,22,[],[2],[],true⟩),
 (105,⟨(f105.body).getD .skip,9,[],[4],[],true⟩),
 (106,⟨(f106.body).getD .skip,9,[],[2],[],true⟩),
 (171,⟨(f171.body).getD .skip,19,[],[4],[],true⟩),
 (172,⟨(f172.body).getD .skip,10,[],[2,3],[],true⟩),
 (191,⟨(f191.body).getD .skip,51,[],[4,5],[],true⟩),
 (192,⟨(f192.body).getD .skip,135,[],[6,7],[],true⟩),
 (197,⟨(f197.body).getD .skip,8,[],[3],[],true⟩),
 (143,⟨(f143.body).getD .skip,19,[],[4],[],true⟩),
 (198,⟨(f198.body).getD .skip,7,[],[2],[],true⟩),
 (115,⟨(f115.body).getD .skip,5,[],[2],[],true⟩),
 (156,⟨(f156.body).getD .skip,25,[],[4,5],[],true⟩),
 (221,⟨(f221.body).getD .skip,69,[(3,299)],[2,69,4],[],true⟩),
 (222,⟨(f222.body).getD .skip,15,[(4,25)],[15,5],[],true⟩),
 (223,⟨(f223.body).getD .skip,34,[(2,31)],[34,3],[],true⟩),
 (173,⟨(f173.body).getD .skip,19,[],[4],[],true⟩),
 (174,⟨(f174.body).getD .skip,17,[],[2],[],true⟩),
 (175,⟨(f175.body).getD .skip,29,[],[2],[],true⟩),
 (178,⟨(f178.body).getD .skip,19,[],[4],[],true⟩),
 (241,⟨(f241.body).getD .skip,20,[],[2],[],true⟩),
 (248,⟨(f248.body).getD .skip,6,[],[2],[],true⟩),
 (53,⟨(f53.body).getD .skip,80,[],[2],[],true⟩),
 (113,⟨(f113.body).getD .skip,15,[],[6],[],true⟩),
 (289,⟨(f289.body).getD .skip,10,[],[4],[],true⟩),
 (290,⟨(f290.body).getD .skip,11,[],[4,5],[],true⟩),
 (291,⟨(f291.body).getD .skip,143,[(2,305)],[143,3],[],true⟩),
 (292,⟨(f292.body).getD .skip,148,[(4,25)],[148,5],[],true⟩),
 (242,⟨(f242.body).getD .skip,9,[],[2],[],true⟩),
 (314,⟨(f314.body).getD .skip,25,[],[2],[],true⟩),
 (107,⟨(f107.body).getD .skip,101,[],[2],[],true⟩),
 (108,⟨(f108.body).getD .skip,9,[],[4],[],true⟩),
 (337,⟨(f337.body).getD .skip,18,[],[4,5],[],true⟩),
 (339,⟨(f339.body).getD .skip,100,[(2,25),(3,299)],[100,101,4],[],true⟩),
 (341,⟨(f341.body).getD .skip,16,[],[4],[],true⟩),
 (342,⟨(f342.body).getD .skip,9,[],[2],[],true⟩),
 (350,⟨(f350.body).getD .skip,52,[(2,25)],[52],[0],false⟩),
 (179,⟨(f179.body).getD .skip,15,[],[6],[],true⟩),
 (180,⟨(f180.body).getD .skip,6,[],[2],[],true⟩),
 (181,⟨(f181.body).getD .skip,31,[],[4],[],true⟩),
 (182,⟨(f182.body).getD .skip,8,[],[3],[],true⟩),
 (333,⟨(f333.body).getD .skip,21,[],[4],[],true⟩),
 (395,⟨(f395.body).getD .skip,37,[],[2],[],false⟩),
 (396,⟨(f396.body).getD .skip,61,[(4,135)],[61],[],false⟩),
 (398,⟨(f398.body).getD .skip,13,[],[2],[],true⟩),
 (399,⟨(f399.body).getD .skip,10,[],[3],[],true⟩),
 (244,⟨(f244.body).getD .skip,9,[],[2],[],true⟩),
 (441,⟨(f441.body).getD .skip,25,[],[2],[],false⟩)]
theorem UF:∀p∈fx,Fh prog p.1 p.2:=by
 intro p hp;simp only[fx,bN,lK,or_false]at hp;rcases hp with rfl|rfl|rfl|rfl|rfl|rfl|rfl|rfl|rfl|rfl|rfl|rfl|rfl|rfl|rfl|rfl|rfl|rfl|rfl|rfl|rfl|rfl|rfl|rfl|rfl|rfl|rfl|rfl|rfl|rfl|rfl|rfl|rfl|rfl|rfl|rfl|rfl|rfl|rfl|rfl|rfl|rfl|rfl|rfl|rfl|rfl|rfl|rfl|rfl|rfl|rfl|rfl|rfl|rfl|rfl|rfl|rfl|rfl|rfl|rfl|rfl|rfl|rfl|rfl|rfl|rfl|rfl|rfl|rfl|rfl|rfl|rfl|rfl|rfl|rfl|rfl|rfl|rfl|rfl|rfl|rfl|rfl|rfl|rfl|rfl|rfl|rfl|rfl|rfl
 ·exact⟨call4,_,func4,rfl,rfl,aa⟩
 ·exact⟨call10,_,func10,rfl,rfl,aa⟩
 ·exact⟨call11,_,func11,rfl,rfl,aa⟩
 ·exact⟨call15,_,func15,rfl,rfl,aa⟩
 ·exact⟨call21,_,func21,rfl,rfl,aa⟩
 ·exact⟨call22,_,func22,rfl,rfl,aa⟩
 ·exact⟨call23,_,func23,rfl,rfl,aa⟩
 ·exact⟨call24,_,func24,rfl,rfl,aa⟩
 ·exact⟨call25,_,func25,rfl,rfl,aa⟩
 ·exact⟨call26,_,func26,rfl,rfl,aa⟩
 ·exact⟨call27,_,func27,rfl,rfl,aa⟩
 ·exact⟨call42,_,func42,rfl,rfl,aa⟩
 ·exact⟨call43,_,func43,rfl,rfl,aa⟩
 ·exact⟨call44,_,func44,rfl,rfl,aa⟩
 ·exact⟨call45,_,func45,rfl,rfl,aa⟩
 ·exact⟨call46,_,func46,rfl,rfl,aa⟩
 ·exact⟨call48,_,func48,rfl,rfl,aa⟩
 ·exact⟨call49,_,func49,rfl,rfl,aa⟩
 ·exact⟨call60,_,func60,rfl,rfl,aa⟩
 ·exact⟨call61,_,func61,rfl,rfl,aa⟩
 ·exact⟨call62,_,func62,rfl,rfl,aa⟩
 ·exact⟨call64,_,func64,rfl,rfl,aa⟩
 ·exact⟨call65,_,func65,rfl,rfl,aa⟩
 ·exact⟨call66,_,func66,rfl,rfl,aa⟩
 ·exact⟨call69,_,func69,rfl,rfl,aa⟩
 ·exact⟨call70,_,func70,rfl,rfl,aa⟩
 ·exact⟨call52,_,func52,rfl,rfl,aa⟩
 ·exact⟨call94,_,func94,rfl,rfl,aa⟩
 ·exact⟨call95,_,func95,rfl,rfl,aa⟩
 ·exact⟨call96,_,func96,rfl,rfl,aa⟩
 ·exact⟨call97,_,func97,rfl,rfl,aa⟩
 ·exact⟨call98,_,func98,rfl,rfl,aa⟩
 ·exact⟨call117,_,func117,rfl,rfl,aa⟩
 ·exact⟨call118,_,func118,rfl,rfl,aa⟩
 ·exact⟨call121,_,func121,rfl,rfl,aa⟩
 ·exact⟨call123,_,func123,rfl,rfl,aa⟩
 ·exact⟨call124,_,func124,rfl,rfl,aa⟩
 ·exact⟨call133,_,func133,rfl,rfl,aa⟩
 ·exact⟨call100,_,func100,rfl,rfl,aa⟩
 ·exact⟨call99,_,func99,rfl,rfl,aa⟩
 ·exact⟨call101,_,func101,rfl,rfl,aa⟩
 ·exact⟨call102,_,func102,rfl,rfl,aa⟩
 ·exact⟨call103,_,func103,rfl,rfl,aa⟩
 ·exact⟨call105,_,func105,rfl,rfl,aa⟩
 ·exact⟨call106,_,func106,rfl,rfl,aa⟩
 ·exact⟨call171,_,func171,rfl,rfl,aa⟩
 ·exact⟨call172,_,func172,rfl,rfl,aa⟩
 ·exact⟨call191,_,func191,rfl,rfl,aa⟩
 ·exact⟨call192,_,func192,rfl,rfl,aa⟩
 ·exact⟨call197,_,func197,rfl,rfl,aa⟩
 ·exact⟨call143,_,func143,rfl,rfl,aa⟩
 ·exact⟨call198,_,func198,rfl,rfl,aa⟩
 ·exact⟨call115,_,func115,rfl,rfl,aa⟩
 ·exact⟨call156,_,func156,rfl,rfl,aa⟩
 ·exact⟨call221,_,func221,rfl,rfl,aa⟩
 ·exact⟨call222,_,func222,rfl,rfl,aa⟩
 ·exact⟨call223,_,func223,rfl,rfl,aa⟩
 ·exact⟨call173,_,func173,rfl,rfl,aa⟩
 ·exact⟨call174,_,func174,rfl,rfl,aa⟩
 ·exact⟨call175,_,func175,rfl,rfl,aa⟩
 ·exact⟨call178,_,func178,rfl,rfl,aa⟩
 ·exact⟨call241,_,func241,rfl,rfl,aa⟩
 ·exact⟨call248,_,func248,rfl,rfl,aa⟩
 ·exact⟨call53,_,func53,rfl,rfl,aa⟩
 ·exact⟨call113,_,func113,rfl,rfl,aa⟩
 ·exact⟨call289,_,func289,rfl,rfl,aa⟩
 ·exact⟨call290,_,func290,rfl,rfl,aa⟩
 ·exact⟨call291,_,func291,rfl,rfl,aa⟩
 ·exact⟨call292,_,func292,rfl,rfl,aa⟩
 ·exact⟨call242,_,func242,rfl,rfl,aa⟩
 ·exact⟨call314,_,func314,rfl,rfl,aa⟩
 ·exact⟨call107,_,func107,rfl,rfl,aa⟩
 ·exact⟨call108,_,func108,rfl,rfl,aa⟩
 ·exact⟨call337,_,func337,rfl,rfl,aa⟩
 ·exact⟨call339,_,func339,rfl,rfl,aa⟩
 ·exact⟨call341,_,func341,rfl,rfl,aa⟩
 ·exact⟨call342,_,func342,rfl,rfl,aa⟩
 ·exact⟨call350,_,func350,rfl,rfl,aa⟩
 ·exact⟨call179,_,func179,rfl,rfl,aa⟩
 ·exact⟨call180,_,func180,rfl,rfl,aa⟩
 ·exact⟨call181,_,func181,rfl,rfl,aa⟩
 ·exact⟨call182,_,func182,rfl,rfl,aa⟩
 ·exact⟨call333,_,func333,rfl,rfl,aa⟩
 ·exact⟨call395,_,func395,rfl,rfl,aa⟩
 ·exact⟨call396,_,func396,rfl,rfl,aa⟩
 ·exact⟨call398,_,func398,rfl,rfl,aa⟩
 ·exact⟨call399,_,func399,rfl,rfl,aa⟩
 ·exact⟨call244,_,func244,rfl,rfl,aa⟩
 ·exact⟨call441,_,func441,rfl,rfl,aa⟩
def KV:ah (Nat×Nat):=[]
theorem IY:∀p∈KV,xu prog p.1 p.2:=by intro p hp;cases hp
def bsp:ah Ct:=[⟨298,atoi.sp,atoi.du⟩,⟨125,itoa.sp,itoa.du⟩,⟨120,Gs.sp,Gs.du⟩,⟨297,Rg.sp,Rg.du⟩,⟨63,rep.sp,rep.du⟩,xp.c,Mq.c,Mr.c,Mp.c,u7.c,GR.c]
def X0:Ctx U El:=⟨E,iH,zeros,eqs,lr (bsp.map λc=>(c.f,c.s)),1000,0,js [],λ_=>none,λ_=>none⟩
theorem SZ:bp prog X0:=fV lq (ss _) pD
namespace wK
theorem run:((inl X0 KV fx 40 4).bind λsp=>sp [] [] λv h=>some (v,h))=some (.bool true,[]):=aa
theorem spec:cV prog E 4 [] (.bool true) []:=Ln IY SZ (λn g sp h=>by cases h) UF (λ_ _ _ _ g sp h=>by cases h) run rfl
def g:ah (AV U El)->Option (Bool×AV U El)
 |[]=>some (true,.bool true)
 |_=>none
def sp:Sp U El:=cj g
theorem du:gQ prog E 4 sp:=B1 λvs v e h=>by
 unfold g at e;split at e
 ·cases e;exact .inl spec
 ·cases e
end wK
structure Fit (t:pS) (es:List Rec) (z:List cO):Prop where
 n:gm ⟨t.tn,t.tk⟩=true
 b:eR ⟨t.tn,t.tk⟩=true
 c:qG t.ts=true
 p:lx t.tl=true
 s:fO ⟨t.tn,t.tk⟩ ⟨t.tv,t.tp,t.tt,t.to⟩=true
 e:∀r∈es,jI r=true
 l:es.length<=12
 z:runT t es=some z
theorem Fit.Z'{t:pS}{es:ah Rec}{z:ah cO}(h:Fit t es z)(j:Nat):BI ⟨t.tn,t.tk⟩ t.ts t.tl ⟨t.tv,t.tp,t.tt,t.to⟩ (es.take j)=true/\∃w,z=sB ⟨t.tn,t.tk⟩ t.ts t.tl ⟨t.tv,t.tp,t.tt,t.to⟩ (es.take j)++w:=by
 have hz:=h.z;have hl:=h.l;unfold runT at hz;rw[<-kN j es]at hz;obtain⟨y,w,h1,h2⟩:=IM _ _ _ _ _ _ _ hz;refine⟨eP.2 ⟨h.n,h.b,h.c,h.p,h.s,λr hr=>h.e r (jN j es hr),by rw[bV];omega,by rw[h1];rfl⟩,w,?_⟩
 unfold sB;rw[h1]
 exact h2
theorem Fit.all{t:pS}{es:ah Rec}{z:ah cO}(h:Fit t es z):BI ⟨t.tn,t.tk⟩ t.ts t.tl ⟨t.tv,t.tp,t.tt,t.to⟩ es=true/\sB ⟨t.tn,t.tk⟩ t.ts t.tl ⟨t.tv,t.tp,t.tt,t.to⟩ es=z:=by
 have hz:=h.z;have hl:=h.l;refine⟨eP.2 ⟨h.n,h.b,h.c,h.p,h.s,h.e,ab,by show(runT t es).isSome=true;rw[hz];rfl⟩,?_⟩
 show(runT t es).elim [] id=z;rw[hz]
 rfl
theorem Fit.Yu{t:pS}{es:ah Rec}{z:ah cO}(h:Fit t es z):z.length<=12/\∀x∈z,uK x=true:=by have:=Sn _ _ _ h.b _ _ _ h.z;have hl:=h.l;exact⟨ab,this.2⟩
theorem Hd{α:Type}(l w:ah α):sub (l++w) 0 (Int.ofNat l.length)=l:=by unfold sub;simp
theorem Kx{α:Type}{l:ah α}{j:Nat}(h:j<=l.length):sub l 0 (Int.ofNat (l.take j).length)=l.take j:=by
 have:=Hd (l.take j) (l.drop j)
 rw[kN]at this;exact this
theorem Ky{α:Type}{l:ah α}{j:Nat}(h:j<=l.length):sub l (Int.ofNat (l.take j).length) (Int.ofNat l.length)=l.drop j:=by
 unfold sub;simp only[aW,ig,bV,eV h]
 rw[ki]
 rw[fE]
 omega
namespace Ll
def X:=dp [⟨4,wK.sp,wK.du⟩,BB.c,Si.c,yO.c,⟨10,CQ.sp,CQ.du⟩,⟨11,CR.sp,CR.du⟩,⟨12,L6.sp,L6.du⟩,⟨13,GI.sp,GI.du⟩,⟨14,Md.sp,Md.du⟩,records.c,UL.c,replay.c,UK.c] 271
def bd:=dG Tryz.f3
def RR:bn U El:=λst=>cN (cS [10]) st (ch [10] [])
def dI:Norm U:=⟨[],[1,4,5,11,13,15,16],[5,13],[],[],[],[(5,0,.node),(5,1,.link),(5,2,.dj),(5,3,.eG),(5,4,.int),(5,5,.int),(5,6,.int),(5,7,.bool),(13,0,.u8)]⟩
def jY:Norm U:=⟨[],[1,2,4,5,11,13,15,16,17,72,73,74],[5,13],[],[],[],[(5,0,.node),(5,1,.link),(5,2,.dj),(5,3,.eG),(5,4,.int),(5,5,.int),(5,6,.int),(5,7,.bool),(13,0,.u8)]⟩
def YS:Norm U:=⟨[],[1,5,11,13,24],[5,13],[],[],[],[(5,0,.node),(5,1,.link),(5,2,.dj),(5,3,.eG),(5,4,.int),(5,5,.int),(5,6,.int),(5,7,.bool),(13,0,.u8)]⟩
def F_:Norm U:=⟨[],[1,5,11,13],[5,13],[],[],[],[(5,0,.node),(5,1,.link),(5,2,.dj),(5,3,.eG),(5,4,.int),(5,5,.int),(5,6,.int),(5,7,.bool),(13,0,.u8)]⟩
def S9:Norm U:=⟨[],[1,5,11,13,223,224,225],[5,13],[],[],[],[(5,0,.node),(5,1,.link),(5,2,.dj),(5,3,.eG),(5,4,.int),(5,5,.int),(5,6,.int),(5,7,.bool),(13,0,.u8)]⟩
def an:gb U:=(.seq none .d (.seq none .d (.seq (some (⟨[],[1,2,3,4,5],[5],[],[],[],[(5,0,.node),(5,1,.link),(5,2,.dj),(5,3,.eG),(5,4,.int),(5,5,.int),(5,6,.int),(5,7,.bool)]⟩)) .d (.seq none .d (.seq none .d (.seq none .d (.seq none .d (.seq none .d (.seq none .d (.seq (some dI) (.seq none .d (.block (.loop jY (.seq none .d (.seq none .d (.seq (some jY) (.block (.seq none .d (.seq none .d (.seq (some (⟨[],[1,2,4,5,11,13,15,16,18,20,21,72,73,74],[5,13,20],[],[],[],[(5,0,.node),(5,1,.link),(5,2,.dj),(5,3,.eG),(5,4,.int),(5,5,.int),(5,6,.int),(5,7,.bool),(13,0,.u8),(20,0,.u8)]⟩)) .d (.seq none .d (.seq (some (⟨[],[1,2,4,5,11,13,15,16,17,18,72,73,74],[5,13],[],[],[],[(5,0,.node),(5,1,.link),(5,2,.dj),(5,3,.eG),(5,4,.int),(5,5,.int),(5,6,.int),(5,7,.bool),(13,0,.u8)]⟩)) .d (.seq none .d (.cond (.seq none .d (.seq (some (⟨[],[1,2,4,5,11,13,15,16,17,22,23,72,73,74],[5,13,22],[],[],[],[(5,0,.node),(5,1,.link),(5,2,.dj),(5,3,.eG),(5,4,.int),(5,5,.int),(5,6,.int),(5,7,.bool),(13,0,.u8),(22,0,.u8)]⟩)) .d .d)) .d)))))))) .d)))))) (.seq none .d (.seq none (.region [(15,13)]) (.seq none .d (.seq none .d (.seq none .d (.seq none .d (.seq (some YS) .d (.seq none .d (.seq (some YS) .d (.seq (some F_) (.seq none .d (.block (.loop S9 .d))) (.seq none .d (.seq (some (⟨[],[5,11,28],[5],[],[],[],[(5,0,.node),(5,1,.link),(5,2,.dj),(5,3,.eG),(5,4,.int),(5,5,.int),(5,6,.int),(5,7,.bool)]⟩)) .d .d))))))))))))))))))))))
abbrev Y1:=(ah Rec)->(ah Bool)->Int->Int->(ah Node)->(ah cJ)->(ah cK)->(ah cT)->(ah Int)->(ah Int)->(ah Int)->(ah Bool)->R
abbrev Y2:=(ah Rec)->Int->(ah cO)->Int->Int->(ah Node)->(ah cJ)->(ah cK)->(ah cT)->(ah Int)->(ah Int)->(ah Int)->(ah Bool)->(ah UInt8)->Int->Int->R
abbrev Y3:=(ah Rec)->(ah Bool)->Int->(ah cO)->Int->Int->Bool->(ah Rec)->Int->Int->(ah Node)->(ah cJ)->(ah cK)->(ah cT)->(ah Int)->(ah Int)->(ah Int)->(ah Bool)->(ah UInt8)->Int->Int->R
abbrev Y4:=(ah Rec)->(ah Bool)->Int->(ah cO)->Int->Int->Bool->(ah Rec)->Int->Int->(ah Node)->(ah cJ)->(ah cK)->(ah cT)->(ah Int)->(ah Int)->(ah Int)->(ah Bool)->(ah UInt8)->Int->Int->R
abbrev Y5:=(ah Rec)->(ah Bool)->Int->(ah cO)->Int->Int->Int->Int->(ah Rec)->Int->Int->(ah Node)->(ah cJ)->(ah cK)->(ah cT)->(ah Int)->(ah Int)->(ah Int)->(ah Bool)->(ah UInt8)->Int->Int->(ah UInt8)->Int->Int->R
abbrev Y6:=(ah Rec)->(ah Bool)->Int->(ah cO)->Int->Int->Bool->Int->(ah Rec)->Int->Int->(ah Node)->(ah cJ)->(ah cK)->(ah cT)->(ah Int)->(ah Int)->(ah Int)->(ah Bool)->(ah UInt8)->Int->Int->R
abbrev Y7:=(ah Rec)->(ah Bool)->Int->(ah cO)->Int->Int->Bool->Int->(ah Rec)->Int->Int->(ah Node)->(ah cJ)->(ah cK)->(ah cT)->(ah Int)->(ah Int)->(ah Int)->(ah Bool)->(ah UInt8)->Int->Int->(ah UInt8)->Int->Int->R
abbrev Y8:=(ah Rec)->(ah cO)->(ah Rec)->(ah Node)->(ah cJ)->(ah cK)->(ah cT)->(ah Int)->(ah Int)->(ah Int)->(ah Bool)->(ah UInt8)->Int->Int->R
abbrev Y9:=(ah Rec)->(ah cO)->(ah Rec)->(ah Node)->(ah cJ)->(ah cK)->(ah cT)->(ah Int)->(ah Int)->(ah Int)->(ah Bool)->(ah UInt8)->Int->Int->R
abbrev Rt:=(ah Rec)->(ah cO)->(ah Node)->(ah cJ)->(ah cK)->(ah cT)->(ah Int)->(ah Int)->(ah Int)->(ah Bool)->(ah UInt8)->Int->Int->R
abbrev Vc:=(ah Rec)->(ah cO)->(ah Rec)->Int->Int->(ah Node)->(ah cJ)->(ah cK)->(ah cT)->(ah Int)->(ah Int)->(ah Int)->(ah Bool)->(ah UInt8)->Int->Int->R
abbrev Yq:=(ah cO)->(ah Rec)->(ah Node)->(ah cJ)->(ah cK)->(ah cT)->(ah Int)->(ah Int)->(ah Int)->(ah Bool)->R
def nz(l1:ah Rec)(iA:ah Bool)(hA:Int)(aA:ah cO)(rA fA:Int)(gA:Bool)(uA:ah Rec)(vA tA:Int)(jA:ah Node)(kA:ah cJ)(lA:ah cK)(mA:ah cT)(nA oA pA:ah Int)(qA:ah Bool)(bA:ah UInt8)(cA dA:Int):St U El:=⟨[(1,.au .jt l1),(2,.au .bool iA),(4,.int .u16 hA),(5,.ptr 5 0),(11,.au .state aA),(13,.ptr 13 0),(15,.int .i64 rA),(16,.int .i64 fA),(17,.bool gA),(72,.au .jt uA),(73,.int .i64 vA),(74,.int .i64 tA)],[(5,.box 0 [.au .node jA,.au .link kA,.au .dj lA,.au .eG mA,.au .int nA,.au .int oA,.au .int pA,.au .bool qA]),(13,.box 0 [.au .u8 bA,.int .i64 cA,.int .i64 dA])]⟩
def UH(l1:ah Rec)(aA:ah cO)(yA:ah Rec)(gB xA:Int)(jA:ah Node)(kA:ah cJ)(lA:ah cK)(mA:ah cT)(nA oA pA:ah Int)(qA:ah Bool)(bA:ah UInt8)(cA dA:Int):St U El:=⟨[(1,.au .jt l1),(5,.ptr 5 0),(11,.au .state aA),(13,.ptr 13 0),(223,.au .jt yA),(224,.int .i64 gB),(225,.int .i64 xA)],[(5,.box 0 [.au .node jA,.au .link kA,.au .dj lA,.au .eG mA,.au .int nA,.au .int oA,.au .int pA,.au .bool qA]),(13,.box 0 [.au .u8 bA,.int .i64 cA,.int .i64 dA])]⟩
def cX(t:pS)(es:ah Rec)(sy:ah Bool)(yG kp:Int)(k1:Y1):R:=ai (!(true)) (aq false) (ai (!(BC t)) (aq true) (ai (bz (12:Int) (Int.ofNat es.length)) (aq true) (ai (bz (20:Int) (Int.ofNat sy.length)) (aq true) (ai (bz yG (-1:Int)) (aq true) (ai (bz (1048576:Int) yG) (aq true) (aU (bU es.length 90000) (ai (List.any es qc) (aq true) (k1 es sy yG kp t.tn t.tk t.ts t.tl t.tv t.tp t.tt t.to))))))))
def dR(l1:ah Rec)(iA:ah Bool)(wA hA:Int)(jA:ah Node)(kA:ah cJ)(lA:ah cK)(mA:ah cT)(nA oA pA:ah Int)(qA:ah Bool)(k3:Y3):R:=aU (Ko (⟨jA,kA,lA,mA,nA,oA,pA,qA⟩:pS) l1) (ai (!(Nj (⟨jA,kA,lA,mA,nA,oA,pA,qA⟩:pS) l1)) (aq true) (ai ((GA wA) !=(0:Int)) (aq false) (k3 l1 iA hA (Kp (⟨jA,kA,lA,mA,nA,oA,pA,qA⟩:pS) l1) (0:Int) (0:Int) false l1 (Int.ofNat l1.length) (0:Int) jA kA lA mA nA oA pA qA ((xe wA).dd) ((xe wA).dn) ((xe wA).da))))
def dQ(l1:ah Rec)(hA:Int)(aA:ah cO)(rA fA:Int)(jA:ah Node)(kA:ah cJ)(lA:ah cK)(mA:ah cT)(nA oA pA:ah Int)(qA:ah Bool)(bA:ah UInt8)(cA dA:Int)(k8:Y8):R:=ai (bz (Int.ofNat bA.length) cA) (aq false) (aU ((i64.wrap ((i64.wrap ((Int.ofNat bA.length)-cA))+(1:Int))) !=0) (aU (we (⟨bA,cA,dA⟩:bS) (Int.tmod (i64.wrap hA) (i64.wrap ((i64.wrap ((Int.ofNat bA.length)-cA))+(1:Int))))) (ai (((eU (⟨bA,cA,dA⟩:bS) (Int.tmod (i64.wrap hA) (i64.wrap ((i64.wrap ((Int.ofNat bA.length)-cA))+(1:Int))))).2) !=(0:Int)) (aq false) (aU (wa ((eU (⟨bA,cA,dA⟩:bS) (Int.tmod (i64.wrap hA) (i64.wrap ((i64.wrap ((Int.ofNat bA.length)-cA))+(1:Int))))).1)) (ai (((gI ((eU (⟨bA,cA,dA⟩:bS) (Int.tmod (i64.wrap hA) (i64.wrap ((i64.wrap ((Int.ofNat bA.length)-cA))+(1:Int))))).1)).2) !=(0:Int)) (aq false) (aU (DJ ((gI ((eU (⟨bA,cA,dA⟩:bS) (Int.tmod (i64.wrap hA) (i64.wrap ((i64.wrap ((Int.ofNat bA.length)-cA))+(1:Int))))).1)).1)) (ai (((records.P ((gI ((eU (⟨bA,cA,dA⟩:bS) (Int.tmod (i64.wrap hA) (i64.wrap ((i64.wrap ((Int.ofNat bA.length)-cA))+(1:Int))))).1)).1)).2) !=(0:Int)) (aq false) (ai (bz (Int.ofNat (List.length ((records.P ((gI ((eU (⟨bA,cA,dA⟩:bS) (Int.tmod (i64.wrap hA) (i64.wrap ((i64.wrap ((Int.ofNat bA.length)-cA))+(1:Int))))).1)).1)).1))) rA) (aq false) (ai (bz fA (Int.ofNat (List.length ((records.P ((gI ((eU (⟨bA,cA,dA⟩:bS) (Int.tmod (i64.wrap hA) (i64.wrap ((i64.wrap ((Int.ofNat bA.length)-cA))+(1:Int))))).1)).1)).1)))) (aq false) (aU (bg 0 (0:Int)&&bg (0:Int) (Int.ofNat (List.length ((records.P ((gI ((eU (⟨bA,cA,dA⟩:bS) (Int.tmod (i64.wrap hA) (i64.wrap ((i64.wrap ((Int.ofNat bA.length)-cA))+(1:Int))))).1)).1)).1)))&&bg (Int.ofNat (List.length ((records.P ((gI ((eU (⟨bA,cA,dA⟩:bS) (Int.tmod (i64.wrap hA) (i64.wrap ((i64.wrap ((Int.ofNat bA.length)-cA))+(1:Int))))).1)).1)).1))) (Int.ofNat l1.length)) (aU ((bU (List.length ((records.P ((gI ((eU (⟨bA,cA,dA⟩:bS) (Int.tmod (i64.wrap hA) (i64.wrap ((i64.wrap ((Int.ofNat bA.length)-cA))+(1:Int))))).1)).1)).1)) 90000&&List.all ((records.P ((gI ((eU (⟨bA,cA,dA⟩:bS) (Int.tmod (i64.wrap hA) (i64.wrap ((i64.wrap ((Int.ofNat bA.length)-cA))+(1:Int))))).1)).1)).1) tJ)) (ai (!(JF ((records.P ((gI ((eU (⟨bA,cA,dA⟩:bS) (Int.tmod (i64.wrap hA) (i64.wrap ((i64.wrap ((Int.ofNat bA.length)-cA))+(1:Int))))).1)).1)).1) (sub l1 (0:Int) (Int.ofNat (List.length ((records.P ((gI ((eU (⟨bA,cA,dA⟩:bS) (Int.tmod (i64.wrap hA) (i64.wrap ((i64.wrap ((Int.ofNat bA.length)-cA))+(1:Int))))).1)).1)).1)))))) (aq false) (k8 l1 aA ((records.P ((gI ((eU (⟨bA,cA,dA⟩:bS) (Int.tmod (i64.wrap hA) (i64.wrap ((i64.wrap ((Int.ofNat bA.length)-cA))+(1:Int))))).1)).1)).1) jA kA lA mA nA oA pA qA (((gI ((eU (⟨bA,cA,dA⟩:bS) (Int.tmod (i64.wrap hA) (i64.wrap ((i64.wrap ((Int.ofNat bA.length)-cA))+(1:Int))))).1)).1).dd) (((gI ((eU (⟨bA,cA,dA⟩:bS) (Int.tmod (i64.wrap hA) (i64.wrap ((i64.wrap ((Int.ofNat bA.length)-cA))+(1:Int))))).1)).1).dn) (((gI ((eU (⟨bA,cA,dA⟩:bS) (Int.tmod (i64.wrap hA) (i64.wrap ((i64.wrap ((Int.ofNat bA.length)-cA))+(1:Int))))).1)).1).da))))))))))))))
def gf(l1:ah Rec)(iA:ah Bool)(hA:Int)(aA:ah cO)(rA fA:Int)(gA:Bool)(uA:ah Rec)(vA tA:Int)(jA:ah Node)(kA:ah cJ)(lA:ah cK)(mA:ah cT)(nA oA pA:ah Int)(qA:ah Bool)(bA:ah UInt8)(cA dA:Int)(k2:Y2)(k5:Y5):R:=ai (bz tA vA) (aU (dV tA uA.length) (aU (qZ (⟨bA,cA,dA⟩:bS) (uA.getD tA.toNat dh)) (ai (((bJ (⟨bA,cA,dA⟩:bS) (uA.getD tA.toNat dh)).2) !=(0:Int)) (ai (((bJ (⟨bA,cA,dA⟩:bS) (uA.getD tA.toNat dh)).2) !=(19:Int)) (aq false) (ai gA (ai (((bJ (⟨bA,cA,dA⟩:bS) (uA.getD tA.toNat dh)).2) !=(19:Int)) (aq false) (k5 l1 iA hA aA rA fA tA ((bJ (⟨bA,cA,dA⟩:bS) (uA.getD tA.toNat dh)).2) uA vA tA jA kA lA mA nA oA pA qA bA cA dA (((bJ (⟨bA,cA,dA⟩:bS) (uA.getD tA.toNat dh)).1).dd) (((bJ (⟨bA,cA,dA⟩:bS) (uA.getD tA.toNat dh)).1).dn) (((bJ (⟨bA,cA,dA⟩:bS) (uA.getD tA.toNat dh)).1).da))) (k5 l1 iA hA aA rA fA tA ((bJ (⟨bA,cA,dA⟩:bS) (uA.getD tA.toNat dh)).2) uA vA tA jA kA lA mA nA oA pA qA bA cA dA (((bJ (⟨bA,cA,dA⟩:bS) (uA.getD tA.toNat dh)).1).dd) (((bJ (⟨bA,cA,dA⟩:bS) (uA.getD tA.toNat dh)).1).dn) (((bJ (⟨bA,cA,dA⟩:bS) (uA.getD tA.toNat dh)).1).da)))) (ai gA (ai (((bJ (⟨bA,cA,dA⟩:bS) (uA.getD tA.toNat dh)).2) !=(19:Int)) (aq false) (k5 l1 iA hA aA rA fA tA ((bJ (⟨bA,cA,dA⟩:bS) (uA.getD tA.toNat dh)).2) uA vA tA jA kA lA mA nA oA pA qA bA cA dA (((bJ (⟨bA,cA,dA⟩:bS) (uA.getD tA.toNat dh)).1).dd) (((bJ (⟨bA,cA,dA⟩:bS) (uA.getD tA.toNat dh)).1).dn) (((bJ (⟨bA,cA,dA⟩:bS) (uA.getD tA.toNat dh)).1).da))) (k5 l1 iA hA aA rA fA tA ((bJ (⟨bA,cA,dA⟩:bS) (uA.getD tA.toNat dh)).2) uA vA tA jA kA lA mA nA oA pA qA bA cA dA (((bJ (⟨bA,cA,dA⟩:bS) (uA.getD tA.toNat dh)).1).dd) (((bJ (⟨bA,cA,dA⟩:bS) (uA.getD tA.toNat dh)).1).dn) (((bJ (⟨bA,cA,dA⟩:bS) (uA.getD tA.toNat dh)).1).da)))))) (k2 l1 hA aA rA fA jA kA lA mA nA oA pA qA bA cA dA)
def l_(l1:ah Rec)(iA:ah Bool)(hA:Int)(aA:ah cO)(rA fA:Int)(gA:Bool)(uA:ah Rec)(vA tA:Int)(jA:ah Node)(kA:ah cJ)(lA:ah cK)(mA:ah cT)(nA oA pA:ah Int)(qA:ah Bool)(bA:ah UInt8)(cA dA:Int)(k3:Y3):R:=k3 l1 iA hA aA rA fA gA uA vA (i64.wrap (tA+(1:Int))) jA kA lA mA nA oA pA qA bA cA dA
def sk(l1:ah Rec)(iA:ah Bool)(hA:Int)(aA:ah cO)(rA fA hB iB:Int)(uA:ah Rec)(vA tA:Int)(jA:ah Node)(kA:ah cJ)(lA:ah cK)(mA:ah cT)(nA oA pA:ah Int)(qA:ah Bool)(bA:ah UInt8)(cA dA:Int)(aB:ah UInt8)(bB cB:Int)(k6:Y6):R:=ai (!(iB==(19:Int))) (k6 l1 iA hA aA rA (i64.wrap (hB+(1:Int))) (iB==(19:Int)) hB uA vA tA jA kA lA mA nA oA pA qA aB bB cB) (k6 l1 iA hA aA rA fA (iB==(19:Int)) hB uA vA tA jA kA lA mA nA oA pA qA aB bB cB)
def pQ(l1:ah Rec)(iA:ah Bool)(hA:Int)(aA:ah cO)(rA fA:Int)(gA:Bool)(hB:Int)(uA:ah Rec)(vA tA:Int)(jA:ah Node)(kA:ah cJ)(lA:ah cK)(mA:ah cT)(nA oA pA:ah Int)(qA:ah Bool)(bA:ah UInt8)(cA dA:Int)(k4:Y4)(k7:Y7):R:=ai (bz hB (Int.ofNat iA.length)) (aU (dV hB iA.length) (ai (iA.getD hB.toNat jz) (aU (yB (⟨bA,cA,dA⟩:bS)) (ai (((fX (⟨bA,cA,dA⟩:bS)).2) !=(0:Int)) (ai (((fX (⟨bA,cA,dA⟩:bS)).2) !=(19:Int)) (aq false) (k7 l1 iA hA aA rA fA gA ((fX (⟨bA,cA,dA⟩:bS)).2) uA vA tA jA kA lA mA nA oA pA qA bA cA dA (((fX (⟨bA,cA,dA⟩:bS)).1).dd) (((fX (⟨bA,cA,dA⟩:bS)).1).dn) (((fX (⟨bA,cA,dA⟩:bS)).1).da))) (k7 l1 iA hA aA rA fA gA ((fX (⟨bA,cA,dA⟩:bS)).2) uA vA tA jA kA lA mA nA oA pA qA bA cA dA (((fX (⟨bA,cA,dA⟩:bS)).1).dd) (((fX (⟨bA,cA,dA⟩:bS)).1).dn) (((fX (⟨bA,cA,dA⟩:bS)).1).da)))) (k4 l1 iA hA aA rA fA gA uA vA tA jA kA lA mA nA oA pA qA bA cA dA))) (k4 l1 iA hA aA rA fA gA uA vA tA jA kA lA mA nA oA pA qA bA cA dA)
def wS(l1:ah Rec)(iA:ah Bool)(hA:Int)(aA:ah cO)(rA fA:Int)(gA:Bool)(f23:Int)(uA:ah Rec)(vA tA:Int)(jA:ah Node)(kA:ah cJ)(lA:ah cK)(mA:ah cT)(nA oA pA:ah Int)(qA:ah Bool)(bA:ah UInt8)(cA dA:Int)(dB:ah UInt8)(eB fB:Int)(k4:Y4):R:=ai (f23==(0:Int)) (k4 l1 iA hA aA fA fA gA uA vA tA jA kA lA mA nA oA pA qA dB eB fB) (k4 l1 iA hA aA rA fA gA uA vA tA jA kA lA mA nA oA pA qA dB eB fB)
def BF(l1:ah Rec)(aA:ah cO)(sA:ah Rec)(jA:ah Node)(kA:ah cJ)(lA:ah cK)(mA:ah cT)(nA oA pA:ah Int)(qA:ah Bool)(bA:ah UInt8)(cA dA:Int)(k9:Y9):R:=aU (BI (⟨jA,kA⟩:Net) lA mA (⟨nA,oA,pA,qA⟩:cO) sA) (ai ((KR (⟨jA,kA⟩:Net) lA mA (⟨nA,oA,pA,qA⟩:cO) sA) !=(0:Int)) (aq false) (ai (bz (Int.ofNat aA.length) (Int.ofNat (List.length (sB (⟨jA,kA⟩:Net) lA mA (⟨nA,oA,pA,qA⟩:cO) sA)))) (aq false) (aU (bg 0 (0:Int)&&bg (0:Int) (Int.ofNat (List.length (sB (⟨jA,kA⟩:Net) lA mA (⟨nA,oA,pA,qA⟩:cO) sA)))&&bg (Int.ofNat (List.length (sB (⟨jA,kA⟩:Net) lA mA (⟨nA,oA,pA,qA⟩:cO) sA))) (Int.ofNat aA.length)) (aU ((bU (List.length (sB (⟨jA,kA⟩:Net) lA mA (⟨nA,oA,pA,qA⟩:cO) sA)) 90000&&List.all (sB (⟨jA,kA⟩:Net) lA mA (⟨nA,oA,pA,qA⟩:cO) sA) uK)) (ai (!(Mc (sB (⟨jA,kA⟩:Net) lA mA (⟨nA,oA,pA,qA⟩:cO) sA) (sub aA (0:Int) (Int.ofNat (List.length (sB (⟨jA,kA⟩:Net) lA mA (⟨nA,oA,pA,qA⟩:cO) sA)))))) (aq false) (k9 l1 aA sA jA kA lA mA nA oA pA qA bA cA dA))))))
def RB(l1:ah Rec)(aA:ah cO)(sA:ah Rec)(jA:ah Node)(kA:ah cJ)(lA:ah cK)(mA:ah cT)(nA oA pA:ah Int)(qA:ah Bool)(bA:ah UInt8)(cA dA:Int)(Ph:Vc):R:=aU (bg 0 (Int.ofNat sA.length)&&bg (Int.ofNat sA.length) (Int.ofNat l1.length)&&bg (Int.ofNat l1.length) (Int.ofNat l1.length)) (Ph l1 aA (sub l1 (Int.ofNat sA.length) (Int.ofNat l1.length)) (Int.ofNat (List.length (sub l1 (Int.ofNat sA.length) (Int.ofNat l1.length)))) (0:Int) jA kA lA mA nA oA pA qA bA cA dA)
def FF(l1:ah Rec)(aA:ah cO)(jA:ah Node)(kA:ah cJ)(lA:ah cK)(mA:ah cT)(nA oA pA:ah Int)(qA:ah Bool)(bA:ah UInt8)(cA dA:Int)(Tz:Yq):R:=aU (DJ (⟨bA,cA,dA⟩:bS)) (ai (((records.P (⟨bA,cA,dA⟩:bS)).2) !=(0:Int)) (aq false) (aU ((bU (List.length ((records.P (⟨bA,cA,dA⟩:bS)).1)) 90000&&List.all ((records.P (⟨bA,cA,dA⟩:bS)).1) tJ)) (ai (!(JF ((records.P (⟨bA,cA,dA⟩:bS)).1) l1)) (aq false) (Tz aA ((records.P (⟨bA,cA,dA⟩:bS)).1) jA kA lA mA nA oA pA qA))))
def KH(l1:ah Rec)(aA:ah cO)(yA:ah Rec)(gB xA:Int)(jA:ah Node)(kA:ah cJ)(lA:ah cK)(mA:ah cT)(nA oA pA:ah Int)(qA:ah Bool)(bA:ah UInt8)(cA dA:Int)(Ws:Rt)(Ph:Vc):R:=ai (bz xA gB) (aU (dV xA yA.length) (aU (qZ (⟨bA,cA,dA⟩:bS) (yA.getD xA.toNat dh)) (ai (((bJ (⟨bA,cA,dA⟩:bS) (yA.getD xA.toNat dh)).2) !=(0:Int)) (aq false) (Ph l1 aA yA gB (i64.wrap (xA+(1:Int))) jA kA lA mA nA oA pA qA (((bJ (⟨bA,cA,dA⟩:bS) (yA.getD xA.toNat dh)).1).dd) (((bJ (⟨bA,cA,dA⟩:bS) (yA.getD xA.toNat dh)).1).dn) (((bJ (⟨bA,cA,dA⟩:bS) (yA.getD xA.toNat dh)).1).da))))) (Ws l1 aA jA kA lA mA nA oA pA qA bA cA dA)
def KG(aA:ah cO)(zA:ah Rec)(jA:ah Node)(kA:ah cJ)(lA:ah cK)(mA:ah cT)(nA oA pA:ah Int)(qA:ah Bool):R:=aU (BI (⟨jA,kA⟩:Net) lA mA (⟨nA,oA,pA,qA⟩:cO) zA) (ai ((KR (⟨jA,kA⟩:Net) lA mA (⟨nA,oA,pA,qA⟩:cO) zA)==(0:Int)) (aU ((bU (List.length (sB (⟨jA,kA⟩:Net) lA mA (⟨nA,oA,pA,qA⟩:cO) zA)) 90000&&List.all (sB (⟨jA,kA⟩:Net) lA mA (⟨nA,oA,pA,qA⟩:cO) zA) uK)) (aq (Mc (sB (⟨jA,kA⟩:Net) lA mA (⟨nA,oA,pA,qA⟩:cO) zA) aA))) (aq false))
abbrev ex:=kf X bd an RR
abbrev it:=nO X bd an RR
def nU(iP:bn U El):=it jY [1,1,1,1,1,1,1,1,1,0,1,0,0] (cu 0 (bG dI iP) nE)
def TB(Ry:bn U El):=it S9 [1,1,1,1,1,1,1,1,1,1,1,1,1,1,1,1,1,1,1,0,1,0,0] (cu 2 (bG F_ Ry) nE)
def cQ:=ex [1,1,1] RR nE
def ib:=ex [1,1,1,1,1,1,1,1,1,1] RR nE
def pH(iP oV:bn U El):=ex [1,1,1,1,1,1,1,1,1,0,1,0,0,1,1,1] (bG jY oV) (cu 0 (bG dI iP) nE)
def rb(iP Ff:bn U El):=ex [1,1,1,1,1,1,1,1,1,0,1,0,0,1,1,0,0,1,1,1] (bG jY Ff) (cu 1 (bG jY Ff) (cu 0 (bG dI iP) nE))
def ui(iP Ff:bn U El):=ex [1,1,1,1,1,1,1,1,1,0,1,0,0,1,1,0,0,1,1,1,1,1] (bG jY Ff) (cu 1 (bG jY Ff) (cu 0 (bG dI iP) nE))
def GP(iP Ff:bn U El):=ex [1,1,1,1,1,1,1,1,1,0,1,0,0,1,1,0,0,1,1,1,1,1,1,0,1,1] (bG jY Ff) (cu 1 (bG jY Ff) (cu 0 (bG dI iP) nE))
def B5:=ex [1,1,1,1,1,1,1,1,1,1,1,1,1,1,1,1,1] RR nE
def Ri:=ex [1,1,1,1,1,1,1,1,1,1,1,1,1,1,1,1,1,1,1] RR nE
def Rj:=ex [1,1,1,1,1,1,1,1,1,1,1,1,1,1,1,1,1,1,1,1] RR nE
def Br:=ex [1,1,1,1,1,1,1,1,1,1,1,1,1,1,1,1,1,1,1,1,1,1] RR nE
def f12(aA:ah cO)(zA:ah Rec)(jA:ah Node)(kA:ah cJ)(lA:ah cK)(mA:ah cT)(nA oA pA:ah Int)(qA:ah Bool):R:=KG aA zA jA kA lA mA nA oA pA qA
def f10(l1:ah Rec)(aA:ah cO)(jA:ah Node)(kA:ah cJ)(lA:ah cK)(mA:ah cT)(nA oA pA:ah Int)(qA:ah Bool)(bA:ah UInt8)(cA dA:Int):R:=FF l1 aA jA kA lA mA nA oA pA qA bA cA dA f12
def f11:Nat->Vc
 |0=>λ_ _ _ _ _ _ _ _ _ _ _ _ _ _ _ _=>none
 |n+1=>λl1 aA yA gB xA jA kA lA mA nA oA pA qA bA cA dA=>KH l1 aA yA gB xA jA kA lA mA nA oA pA qA bA cA dA f10 (f11 n)
def f9(l1:ah Rec)(aA:ah cO)(sA:ah Rec)(jA:ah Node)(kA:ah cJ)(lA:ah cK)(mA:ah cT)(nA oA pA:ah Int)(qA:ah Bool)(bA:ah UInt8)(cA dA:Int):R:=RB l1 aA sA jA kA lA mA nA oA pA qA bA cA dA (f11 100000)
def f8(l1:ah Rec)(aA:ah cO)(sA:ah Rec)(jA:ah Node)(kA:ah cJ)(lA:ah cK)(mA:ah cT)(nA oA pA:ah Int)(qA:ah Bool)(bA:ah UInt8)(cA dA:Int):R:=BF l1 aA sA jA kA lA mA nA oA pA qA bA cA dA f9
def f2(l1:ah Rec)(hA:Int)(aA:ah cO)(rA fA:Int)(jA:ah Node)(kA:ah cJ)(lA:ah cK)(mA:ah cT)(nA oA pA:ah Int)(qA:ah Bool)(bA:ah UInt8)(cA dA:Int):R:=dQ l1 hA aA rA fA jA kA lA mA nA oA pA qA bA cA dA f8
def f4(k3:Y3)(l1:ah Rec)(iA:ah Bool)(hA:Int)(aA:ah cO)(rA fA:Int)(gA:Bool)(uA:ah Rec)(vA tA:Int)(jA:ah Node)(kA:ah cJ)(lA:ah cK)(mA:ah cT)(nA oA pA:ah Int)(qA:ah Bool)(bA:ah UInt8)(cA dA:Int):R:=l_ l1 iA hA aA rA fA gA uA vA tA jA kA lA mA nA oA pA qA bA cA dA k3
def f7(k3:Y3)(l1:ah Rec)(iA:ah Bool)(hA:Int)(aA:ah cO)(rA fA:Int)(gA:Bool)(f23:Int)(uA:ah Rec)(vA tA:Int)(jA:ah Node)(kA:ah cJ)(lA:ah cK)(mA:ah cT)(nA oA pA:ah Int)(qA:ah Bool)(bA:ah UInt8)(cA dA:Int)(dB:ah UInt8)(eB fB:Int):R:=wS l1 iA hA aA rA fA gA f23 uA vA tA jA kA lA mA nA oA pA qA bA cA dA dB eB fB (f4 k3)
def f6(k3:Y3)(l1:ah Rec)(iA:ah Bool)(hA:Int)(aA:ah cO)(rA fA:Int)(gA:Bool)(hB:Int)(uA:ah Rec)(vA tA:Int)(jA:ah Node)(kA:ah cJ)(lA:ah cK)(mA:ah cT)(nA oA pA:ah Int)(qA:ah Bool)(bA:ah UInt8)(cA dA:Int):R:=pQ l1 iA hA aA rA fA gA hB uA vA tA jA kA lA mA nA oA pA qA bA cA dA (f4 k3) (f7 k3)
def f5(k3:Y3)(l1:ah Rec)(iA:ah Bool)(hA:Int)(aA:ah cO)(rA fA hB iB:Int)(uA:ah Rec)(vA tA:Int)(jA:ah Node)(kA:ah cJ)(lA:ah cK)(mA:ah cT)(nA oA pA:ah Int)(qA:ah Bool)(bA:ah UInt8)(cA dA:Int)(aB:ah UInt8)(bB cB:Int):R:=sk l1 iA hA aA rA fA hB iB uA vA tA jA kA lA mA nA oA pA qA bA cA dA aB bB cB (f6 k3)
def f3:Nat->Y3
 |0=>λ_ _ _ _ _ _ _ _ _ _ _ _ _ _ _ _ _ _ _ _ _=>none
 |n+1=>λl1 iA hA aA rA fA gA uA vA tA jA kA lA mA nA oA pA qA bA cA dA=>gf l1 iA hA aA rA fA gA uA vA tA jA kA lA mA nA oA pA qA bA cA dA f2 (f5 (f3 n))
def f1(l1:ah Rec)(iA:ah Bool)(wA hA:Int)(jA:ah Node)(kA:ah cJ)(lA:ah cK)(mA:ah cT)(nA oA pA:ah Int)(qA:ah Bool):R:=dR l1 iA wA hA jA kA lA mA nA oA pA qA (f3 100000)
def f0(t:pS)(es:ah Rec)(sy:ah Bool)(yG kp:Int):R:=cX t es sy yG kp f1
theorem Ys:(λaA zA jA kA lA mA nA oA pA qA=>(hid Br) ⟨[(5,.ptr 5 0),(11,.au .state aA),(28,.au .jt zA)],[(5,.box 0 [.au .node jA,.au .link kA,.au .dj lA,.au .eG mA,.au .int nA,.au .int oA,.au .int pA,.au .bool qA])]⟩)=f12:=by funext aA zA jA kA lA mA nA oA pA qA;refine cm ?_;unfold f12;exact aa
theorem E10:(λl1 aA jA kA lA mA nA oA pA qA bA cA dA=>(hid Rj) ⟨[(1,.au .jt l1),(5,.ptr 5 0),(11,.au .state aA),(13,.ptr 13 0)],[(5,.box 0 [.au .node jA,.au .link kA,.au .dj lA,.au .eG mA,.au .int nA,.au .int oA,.au .int pA,.au .bool qA]),(13,.box 0 [.au .u8 bA,.int .i64 cA,.int .i64 dA])]⟩)=f10:=by funext l1 aA jA kA lA mA nA oA pA qA bA cA dA;refine cm ?_;unfold f10;rw[<-Ys];exact aa
theorem T11:∀n,(λl1 aA yA gB xA jA kA lA mA nA oA pA qA bA cA dA=>TB (hid Rj) n (UH l1 aA yA gB xA jA kA lA mA nA oA pA qA bA cA dA))=f11 n:=by
 intro n;induction n with
 |zero=>rfl
 |succ n ih=>funext l1 aA yA gB xA jA kA lA mA nA oA pA qA bA cA dA;rw[f11];rw[<-E10,<-ih];exact aa
theorem H11:(λl1 aA yA gB xA jA kA lA mA nA oA pA qA bA cA dA=>hid (TB (hid Rj) 100000) (UH l1 aA yA gB xA jA kA lA mA nA oA pA qA bA cA dA))=f11 100000:=by rw[cM];exact(T11 100000)
theorem E9:(λl1 aA sA jA kA lA mA nA oA pA qA bA cA dA=>(hid Ri) ⟨[(1,.au .jt l1),(5,.ptr 5 0),(11,.au .state aA),(13,.ptr 13 0),(24,.au .jt sA)],[(5,.box 0 [.au .node jA,.au .link kA,.au .dj lA,.au .eG mA,.au .int nA,.au .int oA,.au .int pA,.au .bool qA]),(13,.box 0 [.au .u8 bA,.int .i64 cA,.int .i64 dA])]⟩)=f9:=by funext l1 aA sA jA kA lA mA nA oA pA qA bA cA dA;refine cm ?_;unfold f9;rw[<-H11];exact aa
theorem E8:(λl1 aA sA jA kA lA mA nA oA pA qA bA cA dA=>(hid B5) ⟨[(1,.au .jt l1),(5,.ptr 5 0),(11,.au .state aA),(13,.ptr 13 0),(24,.au .jt sA)],[(5,.box 0 [.au .node jA,.au .link kA,.au .dj lA,.au .eG mA,.au .int nA,.au .int oA,.au .int pA,.au .bool qA]),(13,.box 0 [.au .u8 bA,.int .i64 cA,.int .i64 dA])]⟩)=f8:=by funext l1 aA sA jA kA lA mA nA oA pA qA bA cA dA;refine cm ?_;unfold f8;rw[<-E9];exact aa
theorem E2:(λl1 hA aA rA fA jA kA lA mA nA oA pA qA bA cA dA=>(hid ib) ⟨[(1,.au .jt l1),(4,.int .u16 hA),(5,.ptr 5 0),(11,.au .state aA),(13,.ptr 13 0),(15,.int .i64 rA),(16,.int .i64 fA)],[(5,.box 0 [.au .node jA,.au .link kA,.au .dj lA,.au .eG mA,.au .int nA,.au .int oA,.au .int pA,.au .bool qA]),(13,.box 0 [.au .u8 bA,.int .i64 cA,.int .i64 dA])]⟩)=f2:=by funext l1 hA aA rA fA jA kA lA mA nA oA pA qA bA cA dA;refine cm ?_;unfold f2;rw[<-E8];exact aa
theorem E4(pf:bn U El)(k3:Y3)(h3:(λl1 iA hA aA rA fA gA uA vA tA jA kA lA mA nA oA pA qA bA cA dA=>pf (nz l1 iA hA aA rA fA gA uA vA tA jA kA lA mA nA oA pA qA bA cA dA))=k3):(λl1 iA hA aA rA fA gA uA vA tA jA kA lA mA nA oA pA qA bA cA dA=>(hid (pH (hid ib) pf)) ⟨[(1,.au .jt l1),(2,.au .bool iA),(4,.int .u16 hA),(5,.ptr 5 0),(11,.au .state aA),(13,.ptr 13 0),(15,.int .i64 rA),(16,.int .i64 fA),(17,.bool gA),(72,.au .jt uA),(73,.int .i64 vA),(74,.int .i64 tA)],[(5,.box 0 [.au .node jA,.au .link kA,.au .dj lA,.au .eG mA,.au .int nA,.au .int oA,.au .int pA,.au .bool qA]),(13,.box 0 [.au .u8 bA,.int .i64 cA,.int .i64 dA])]⟩)=f4 k3:=by subst h3;funext l1 iA hA aA rA fA gA uA vA tA jA kA lA mA nA oA pA qA bA cA dA;refine cm ?_;unfold f4;exact aa
theorem E7(pf:bn U El)(k3:Y3)(h3:(λl1 iA hA aA rA fA gA uA vA tA jA kA lA mA nA oA pA qA bA cA dA=>pf (nz l1 iA hA aA rA fA gA uA vA tA jA kA lA mA nA oA pA qA bA cA dA))=k3):(λl1 iA hA aA rA fA gA f23 uA vA tA jA kA lA mA nA oA pA qA bA cA dA dB eB fB=>(hid (GP (hid ib) (hid (pH (hid ib) pf)))) ⟨[(1,.au .jt l1),(2,.au .bool iA),(4,.int .u16 hA),(5,.ptr 5 0),(11,.au .state aA),(13,.ptr 13 0),(15,.int .i64 rA),(16,.int .i64 fA),(17,.bool gA),(22,.ptr 22 0),(23,.int .i64 f23),(72,.au .jt uA),(73,.int .i64 vA),(74,.int .i64 tA)],[(5,.box 0 [.au .node jA,.au .link kA,.au .dj lA,.au .eG mA,.au .int nA,.au .int oA,.au .int pA,.au .bool qA]),(13,.box 0 [.au .u8 bA,.int .i64 cA,.int .i64 dA]),(22,.box 0 [.au .u8 dB,.int .i64 eB,.int .i64 fB])]⟩)=f7 k3:=by subst h3;funext l1 iA hA aA rA fA gA f23 uA vA tA jA kA lA mA nA oA pA qA bA cA dA dB eB fB;refine cm ?_;unfold f7;rw[<-E4 pf _ rfl];exact aa
theorem E6(pf:bn U El)(k3:Y3)(h3:(λl1 iA hA aA rA fA gA uA vA tA jA kA lA mA nA oA pA qA bA cA dA=>pf (nz l1 iA hA aA rA fA gA uA vA tA jA kA lA mA nA oA pA qA bA cA dA))=k3):(λl1 iA hA aA rA fA gA hB uA vA tA jA kA lA mA nA oA pA qA bA cA dA=>(hid (ui (hid ib) (hid (pH (hid ib) pf)))) ⟨[(1,.au .jt l1),(2,.au .bool iA),(4,.int .u16 hA),(5,.ptr 5 0),(11,.au .state aA),(13,.ptr 13 0),(15,.int .i64 rA),(16,.int .i64 fA),(17,.bool gA),(18,.int .i64 hB),(72,.au .jt uA),(73,.int .i64 vA),(74,.int .i64 tA)],[(5,.box 0 [.au .node jA,.au .link kA,.au .dj lA,.au .eG mA,.au .int nA,.au .int oA,.au .int pA,.au .bool qA]),(13,.box 0 [.au .u8 bA,.int .i64 cA,.int .i64 dA])]⟩)=f6 k3:=by subst h3;funext l1 iA hA aA rA fA gA hB uA vA tA jA kA lA mA nA oA pA qA bA cA dA;refine cm ?_;unfold f6;rw[<-E4 pf _ rfl,<-E7 pf _ rfl];exact aa
theorem E5(pf:bn U El)(k3:Y3)(h3:(λl1 iA hA aA rA fA gA uA vA tA jA kA lA mA nA oA pA qA bA cA dA=>pf (nz l1 iA hA aA rA fA gA uA vA tA jA kA lA mA nA oA pA qA bA cA dA))=k3):(λl1 iA hA aA rA fA hB iB uA vA tA jA kA lA mA nA oA pA qA bA cA dA aB bB cB=>(hid (rb (hid ib) (hid (pH (hid ib) pf)))) ⟨[(1,.au .jt l1),(2,.au .bool iA),(4,.int .u16 hA),(5,.ptr 5 0),(11,.au .state aA),(13,.ptr 13 0),(15,.int .i64 rA),(16,.int .i64 fA),(18,.int .i64 hB),(20,.ptr 20 0),(21,.int .i64 iB),(72,.au .jt uA),(73,.int .i64 vA),(74,.int .i64 tA)],[(5,.box 0 [.au .node jA,.au .link kA,.au .dj lA,.au .eG mA,.au .int nA,.au .int oA,.au .int pA,.au .bool qA]),(13,.box 0 [.au .u8 bA,.int .i64 cA,.int .i64 dA]),(20,.box 0 [.au .u8 aB,.int .i64 bB,.int .i64 cB])]⟩)=f5 k3:=by subst h3;funext l1 iA hA aA rA fA hB iB uA vA tA jA kA lA mA nA oA pA qA bA cA dA aB bB cB;refine cm ?_;unfold f5;rw[<-E6 pf _ rfl];exact aa
theorem T3:∀n,(λl1 iA hA aA rA fA gA uA vA tA jA kA lA mA nA oA pA qA bA cA dA=>nU (hid ib) n (nz l1 iA hA aA rA fA gA uA vA tA jA kA lA mA nA oA pA qA bA cA dA))=f3 n:=by
 intro n;induction n with
 |zero=>rfl
 |succ n ih=>funext l1 iA hA aA rA fA gA uA vA tA jA kA lA mA nA oA pA qA bA cA dA;rw[f3];rw[<-E2,<-E5 (nU (hid ib) n) _ ih];exact aa
theorem H3:(λl1 iA hA aA rA fA gA uA vA tA jA kA lA mA nA oA pA qA bA cA dA=>hid (nU (hid ib) 100000) (nz l1 iA hA aA rA fA gA uA vA tA jA kA lA mA nA oA pA qA bA cA dA))=f3 100000:=by rw[cM];exact(T3 100000)
theorem E1:(λl1 iA wA hA jA kA lA mA nA oA pA qA=>(hid cQ) ⟨[(1,.au .jt l1),(2,.au .bool iA),(3,.int .i64 wA),(4,.int .u16 hA),(5,.ptr 5 0)],[(5,.box 0 [.au .node jA,.au .link kA,.au .dj lA,.au .eG mA,.au .int nA,.au .int oA,.au .int pA,.au .bool qA])]⟩)=f1:=by funext l1 iA wA hA jA kA lA mA nA oA pA qA;refine cm ?_;unfold f1;rw[<-H3];exact aa
theorem run(t es sy yG kp):ca X bd an (cS [10]) [10] [] [eA .rp t,.au .jt es,.au .bool sy,.int .i64 yG,.int .u16 kp]=f0 t es sy yG kp:=by unfold f0;rw[<-E1];exact aa
variable{t:pS}{es:ah Rec}{z:ah cO}
theorem UQ(h:Fit t es z):f12 z es t.tn t.tk t.ts t.tl t.tv t.tp t.tt t.to=aq true:=by
 obtain⟨h1,h2⟩:=h.all;obtain⟨h3,h4⟩:=h.Yu;show KG z es t.tn t.tk t.ts t.tl t.tv t.tp t.tt t.to=_;unfold KG;refine(encode.bD h1).trans ((dW rfl).trans ?_)
 rw[h2]
 refine(encode.bD (eN (c_ ab) (aP.2 h4))).trans ?_;unfold Mc;rw[vZ y_]
theorem UR(h:Fit t es z){d:bS}{k:Nat}(hd:jV es d es.length k []):f10 es z t.tn t.tk t.ts t.tl t.tv t.tp t.tt t.to d.dd d.dn d.da=aq true:=by
 obtain⟨h1,h2⟩:=hd.records h.e h.l;have hl:=h.l;rw[List.take_length]at h2;show FF es z t.tn t.tk t.ts t.tl t.tv t.tp t.tt t.to d.dd d.dn d.da f12=_;unfold FF;refine(encode.bD h1).trans ?_;show ai ((records.P d).2 !=0) _ _=_;rw[show records.P ⟨d.dd,d.dn,d.da⟩=(es,0)from h2]
 refine(bT rfl).trans ((encode.bD (eN (c_ (by show es.length<=_;omega)) (aP.2 λr hr=>vJ (h.e r hr)))).trans ((bT ?_).trans (UQ h)))
 unfold JF;rw[vZ za]
 rfl
theorem Qk(h:Fit t es z){j:Nat}(hj:j<=es.length){k:Nat}: ∀(m i:Nat) (d:bS),(es.drop j).length<m+i->i<=(es.drop j).length->jV es d (j+i) k []->d.da= -1->f11 m es z (es.drop j) (Int.ofNat (es.drop j).length) (i:Int) t.tn t.tk t.ts t.tl t.tv t.tp t.tt t.to d.dd d.dn d.da=aq true:=by
 intro m;induction m with
 |zero=>intro i d h1 h2;omega
 |succ m ih=>
  intro i d h1 h2 hd ha;have hl:=h.l;show KH es z (es.drop j) (Int.ofNat (es.drop j).length) (i:Int) t.tn t.tk t.ts t.tl t.tv t.tp t.tt t.to d.dd d.dn d.da f10 (f11 m)=_;unfold KH;by_cases hi:i<(es.drop j).length
  ·have Jx:j+i<es.length:=by rw[fE]at hi;omega
   have e:List.getD (es.drop j) (Int.toNat (i:Int)) dh=es[j+i]:=by rw[toNat_nat,bQ hi,List.getElem_drop]
   have hr:=h.e _ (bW Jx)
   have hlen:=hd.len h.e h.l;refine(dW (eh (by simpa using hi))).trans ((encode.bD (c9 hi)).trans ?_)
   rw[e]
   refine(encode.bD (eP.2 ⟨hr,⟨_,_,hd.ok h.e h.l,.inl rfl⟩,by show d.dd.length<=_;omega⟩)).trans ?_;rcases hd.append h.e Jx with⟨g1,g2,_⟩|⟨g1,g2,g3⟩
   ·exfalso;have:(bJ d es[j+i]).2=0:=by
     unfold bJ;rw[ha]
     rfl
    rw[this]at g1;exact absurd g1 af
   ·refine(bT (by show((bJ d es[j+i]).2 !=0)=false;rw[g1];rfl)).trans ?_;rw[eY i ab]
    exact ih (i+1) _ ab hi g2 (g3 ha)
  ·have:i=(es.drop j).length:=ab
   subst this;refine(bT (dF ae)).trans ?_;rw[fE,Nat.add_sub_cancel' hj]at hd;exact UR h hd
theorem Ye(h:Fit t es z){j:Nat}(hj:j<=es.length){d:bS}{k:Nat}(hd:jV es d j k [])(ha:d.da= -1):f8 es z (es.take j) t.tn t.tk t.ts t.tl t.tv t.tp t.tt t.to d.dd d.dn d.da=aq true:=by
 obtain⟨h1,w,h2⟩:=h.Z' j;obtain⟨h3,h4⟩:=h.Yu;have hl:=h.l;show BF es z (es.take j) t.tn t.tk t.ts t.tl t.tv t.tp t.tt t.to d.dd d.dn d.da f9=_;unfold BF;refine(encode.bD h1).trans ((bT rfl).trans ?_)
 generalize sB (⟨t.tn,t.tk⟩:Net) t.ts t.tl (⟨t.tv,t.tp,t.tt,t.to⟩:cO) (es.take j)=y at h2⊢;have hy:y.length<=z.length:=by rw[h2,aF];omega
 refine(bT (dF (by simp only[aW];omega))).trans ((encode.bD (c2 (c2 rfl (iI ae)) (iI (by simp only[aW];omega)))).trans ((encode.bD (eN (c_ ab) (aP.2 λx hx=>h4 x (by rw[h2];exact List.mem_append_left _ hx)))).trans ((bT ?_).trans ?_)))
 ·rw[h2,Hd]
  unfold Mc;rw[vZ y_]
  rfl
 ·show RB es z (es.take j) t.tn t.tk t.ts t.tl t.tv t.tp t.tt t.to d.dd d.dn d.da (f11 100000)=_;unfold RB;have hlt:(es.take j).length<=es.length:=by rw[bV];omega
  rw[Ky hj]
  exact(encode.bD (c2 (c2 (iI ae) (iI (by simp only[aW];omega))) (iI (j_ _)))).trans (Qk h hj 100000 0 d (by rw[fE];omega) (eS _) hd ha)
theorem Yf(h:Fit t es z){d:bS}{j k:Nat}{q:ah UInt8}(hd:jV es d j k q){kp:Int}(h0:0<=kp)(h1:kp<=65535):f2 es kp z (k:Int) (j:Int) t.tn t.tk t.ts t.tl t.tv t.tp t.tt t.to d.dd d.dn d.da=aq true:=by
 have hk:=hd.ok h.e h.l;have hlen:=hd.len h.e h.l;have MW:=hk.dn;have hl:=h.l;have hc:((fL ((es.take j).map fT)).length:Int)<=d.dd.length:=by rw[hd.dd,aF];omega
 show dQ es kp z (k:Int) (j:Int) t.tn t.tk t.ts t.tl t.tv t.tp t.tt t.to d.dd d.dn d.da f8=_;unfold dQ;have e1:i64.wrap (Int.ofNat d.dd.length-d.dn)=(d.dd.length:Int)-d.dn:=jD (by simp only[aW];omega) (by simp only[aW];omega)
 have e2:i64.wrap ((d.dd.length:Int)-d.dn+1)=(d.dd.length:Int)-d.dn+1:=jD ab ab
 have e3:i64.wrap kp=kp:=jD ab ab
 rw[e1,e2,e3]
 have m0:0<=Int.tmod kp ((d.dd.length:Int)-d.dn+1):=Int.tmod_nonneg _ h0;have m1:Int.tmod kp ((d.dd.length:Int)-d.dn+1)<(d.dd.length:Int)-d.dn+1:=Int.tmod_lt_of_pos _ ab
 generalize Int.tmod kp ((d.dd.length:Int)-d.dn+1)=K at m0 m1⊢;obtain⟨g1,j',g2,g3,g4,g5⟩:=hd.U0 h.e h.l m0 (by omega:K<=(d.dd.length:Int)-d.dn)
 obtain⟨r1,r2⟩:=g4.records h.e h.l;have mQ:=g4.jl;have hlt:(es.take j').length=j':=by rw[bV];omega
 refine(bT (dF (by simp only[aW];omega))).trans ((encode.bD (by simp only[bne_iff_ne,ne_eq];omega)).trans ((encode.bD (eP.2 ⟨⟨_,_,hk⟩,m0,by show K<=(d.dd.length:Int)-d.dn;omega⟩)).trans ((bT rfl).trans ((encode.bD g1).trans ((bT rfl).trans ((encode.bD r1).trans ?_))))))
 show ai ((records.P (gI (eU d K).1).1).2 !=0) _ _=_;generalize (gI (eU ⟨d.dd,d.dn,d.da⟩ K).1).1=o at r2 g4 g5⊢;rw[r2]
 refine(bT rfl).trans ((bT (dF (by show¬(Int.ofNat (es.take j').length<(k:Int));rw[hlt];simp only[aW];omega))).trans ((bT (dF (by show¬((j:Int)<Int.ofNat (es.take j').length);rw[hlt];simp only[aW];omega))).trans ((encode.bD (c2 (c2 rfl (iI ae)) (iI (by show Int.ofNat (es.take j').length<=_;rw[hlt];simp only[aW];omega)))).trans ((encode.bD (eN (c_ (by show(es.take j').length<=_;omega)) (aP.2 λr hr=>vJ (h.e r (jN j' es hr))))).trans ((bT ?_).trans (Ye h mQ g4 g5))))))
 show(!(JF (es.take j') (sub es 0 (Int.ofNat (es.take j').length))))=false;rw[Kx mQ]
 unfold JF;rw[vZ za]
 rfl
theorem O2(h:Fit t es z){sy:ah Bool}{kp:Int}{m i:Nat}(hi:i<es.length){cr:Bool}
 (ih:∀(d:bS) (j k:Nat) (q:ah UInt8),jV es d j k q->j<=i+1->(cr=false->j=i+1)->(cr=true->d.da=0)->f3 m es sy kp z (k:Int) (j:Int) cr es (Int.ofNat es.length) ((i+1:Nat):Int) t.tn t.tk t.ts t.tl t.tv t.tp t.tt t.to d.dd d.dn d.da=aq true)
 {d:bS} {j k:Nat} {q:ah UInt8} (hd:jV es d j k q) (h1:j<=i+1) (h2:cr=false->j=i+1) (h3:cr=true->d.da=0):
 f6 (f3 m) es sy kp z (k:Int) (j:Int) cr (i:Int) es (Int.ofNat es.length) (i:Int) t.tn t.tk t.ts t.tl t.tv t.tp t.tt t.to d.dd d.dn d.da=aq true:=by
 have hl:=h.l;have go:∀(d:bS) (j k:Nat) (q:ah UInt8),jV es d j k q->j<=i+1->(cr=false->j=i+1)->(cr=true->d.da=0)->f4 (f3 m) es sy kp z (k:Int) (j:Int) cr es (Int.ofNat es.length) (i:Int) t.tn t.tk t.ts t.tl t.tv t.tp t.tt t.to d.dd d.dn d.da=aq true:=by
  intro d j k q a1 a2 a3 a4;show f3 m es sy kp z (k:Int) (j:Int) cr es (Int.ofNat es.length) (i64.wrap ((i:Int)+1)) t.tn t.tk t.ts t.tl t.tv t.tp t.tt t.to d.dd d.dn d.da=_;rw[eY i ab]
  exact ih d j k q a1 a2 a3 a4
 show pQ es sy kp z (k:Int) (j:Int) cr (i:Int) es (Int.ofNat es.length) (i:Int) t.tn t.tk t.ts t.tl t.tv t.tp t.tt t.to d.dd d.dn d.da (f4 (f3 m)) (f7 (f3 m))=_;unfold pQ;cases e1:bz (i:Int) (Int.ofNat sy.length)with
 |false=>exact(bT rfl).trans (go d j k q hd h1 h2 h3)
 |true=>
  have hs:i<sy.length:=by have:=N7 e1;simpa using this
  refine(dW rfl).trans ((encode.bD (c9 hs)).trans ?_)
  cases List.getD sy (Int.toNat (i:Int)) jz with
  |false=>exact(bT rfl).trans (go d j k q hd h1 h2 h3)
  |true=>
   refine(dW rfl).trans ((encode.bD (eP.2 ⟨_,_,hd.ok h.e h.l,hd.qa⟩)).trans ?_)
   rcases hd.sync with⟨ha,e⟩|⟨ha,e0,ea,hw⟩
   ·rw[show fX ⟨d.dd,d.dn,d.da⟩=(d,19)from e]
    refine(dW rfl).trans ((bT rfl).trans ?_)
    show wS es sy kp z (k:Int) (j:Int) cr 19 es (Int.ofNat es.length) (i:Int) t.tn t.tk t.ts t.tl t.tv t.tp t.tt t.to d.dd d.dn d.da d.dd d.dn d.da (f4 (f3 m))=_;unfold wS;refine(bT rfl).trans ?_;exact go d j k q hd h1 h2 h3
   ·refine(bT (by show((fX d).2 !=0)=false;rw[e0];rfl)).trans ?_;show f7 (f3 m) es sy kp z (k:Int) (j:Int) cr (fX d).2 es (Int.ofNat es.length) (i:Int) t.tn t.tk t.ts t.tl t.tv t.tp t.tt t.to d.dd d.dn d.da (fX d).1.dd (fX d).1.dn (fX d).1.da=_;rw[e0]
    show wS es sy kp z (k:Int) (j:Int) cr 0 es (Int.ofNat es.length) (i:Int) t.tn t.tk t.ts t.tl t.tv t.tp t.tt t.to d.dd d.dn d.da (fX d).1.dd (fX d).1.dn (fX d).1.da (f4 (f3 m))=_;unfold wS;refine(dW rfl).trans ?_;exact go _ j j [] hw h1 h2 λhc=>absurd (h3 hc) ha
theorem sZ(h:Fit t es z){sy:ah Bool}{kp:Int}(h0:0<=kp)(h1:kp<=65535): ∀(m i:Nat) (d:bS) (j k:Nat) (q:ah UInt8) (cr:Bool),es.length<m+i->i<=es.length->jV es d j k q->j<=i->(cr=false->j=i)->(cr=true->d.da=0)->f3 m es sy kp z (k:Int) (j:Int) cr es (Int.ofNat es.length) (i:Int) t.tn t.tk t.ts t.tl t.tv t.tp t.tt t.to d.dd d.dn d.da=aq true:=by
 intro m;induction m with
 |zero=>intro i d j k q cr h1 h2;omega
 |succ m ih=>
  intro i d j k q cr g1 g2 hd g3 g4 g5;have hl:=h.l;show gf es sy kp z (k:Int) (j:Int) cr es (Int.ofNat es.length) (i:Int) t.tn t.tk t.ts t.tl t.tv t.tp t.tt t.to d.dd d.dn d.da f2 (f5 (f3 m))=_;unfold gf;by_cases hi:i<es.length
  ·have e:List.getD es (Int.toNat (i:Int)) dh=es[i]:=by rw[toNat_nat,bQ hi]
   have hr:=h.e _ (bW hi)
   have hlen:=hd.len h.e h.l;refine(dW (eh (by simpa using hi))).trans ((encode.bD (c9 hi)).trans ?_)
   rw[e]
   refine(encode.bD (eP.2 ⟨hr,⟨_,_,hd.ok h.e h.l,hd.qa⟩,by show d.dd.length<=_;omega⟩)).trans ?_;have bad:(bJ d es[i]).2=19->(bJ d es[i]).1.da=0->(∃q',jV es (bJ d es[i]).1 j k q')->f5 (f3 m) es sy kp z (k:Int) (j:Int) (i:Int) (bJ d es[i]).2 es (Int.ofNat es.length) (i:Int) t.tn t.tk t.ts t.tl t.tv t.tp t.tt t.to d.dd d.dn d.da (bJ d es[i]).1.dd (bJ d es[i]).1.dn (bJ d es[i]).1.da=aq true:=by
    intro a1 a2 ⟨q',a3⟩
    rw[a1]
    show sk es sy kp z (k:Int) (j:Int) (i:Int) 19 es (Int.ofNat es.length) (i:Int) t.tn t.tk t.ts t.tl t.tv t.tp t.tt t.to d.dd d.dn d.da (bJ d es[i]).1.dd (bJ d es[i]).1.dn (bJ d es[i]).1.da (f6 (f3 m))=_;unfold sk;refine(bT rfl).trans ?_;exact O2 (cr:=true) h hi (λd j k q b1 b2 b3 b4=>ih (i+1) d j k q true ab hi b1 b2 b3 b4) a3 ab (λhc=>nomatch hc) λ_=>a2
   have key:((bJ d es[i]).2=19/\(bJ d es[i]).1.da=0/\∃q',jV es (bJ d es[i]).1 j k q')\/(cr=false/\(bJ d es[i]).2=0/\jV es (bJ d es[i]).1 (i+1) k []):=by
    by_cases ha:d.da=0
    ·rw[tx ha]
     exact .inl ⟨rfl,ha,q,hd⟩
    ·cases cr with
     |true=>exact absurd (g5 rfl) ha
     |false=>
      have:=g4 rfl;subst this;rcases hd.append h.e hi with b|⟨b1,b2,_⟩
      ·exact .inl b
      ·exact .inr ⟨rfl,b1,b2⟩
   rcases key with⟨a1,a2,a3⟩|⟨rfl,b1,b2⟩
   ·have hx:=bad a1 a2 a3;refine(dW (show((bJ d es[i]).2 !=0)=true by rw[a1];rfl)).trans ((bT (show((bJ d es[i]).2 !=19)=false by rw[a1];rfl)).trans ?_)
    cases cr with
    |false=>exact(bT rfl).trans hx
    |true=>exact(dW rfl).trans ((bT (show((bJ d es[i]).2 !=19)=false by rw[a1];rfl)).trans hx)
   ·refine(bT (show((bJ d es[i]).2 !=0)=false by rw[b1];rfl)).trans ((bT rfl).trans ?_)
    show f5 (f3 m) es sy kp z (k:Int) (j:Int) (i:Int) (bJ d es[i]).2 es (Int.ofNat es.length) (i:Int) t.tn t.tk t.ts t.tl t.tv t.tp t.tt t.to d.dd d.dn d.da (bJ d es[i]).1.dd (bJ d es[i]).1.dn (bJ d es[i]).1.da=_;rw[b1]
    show sk es sy kp z (k:Int) (j:Int) (i:Int) 0 es (Int.ofNat es.length) (i:Int) t.tn t.tk t.ts t.tl t.tv t.tp t.tt t.to d.dd d.dn d.da (bJ d es[i]).1.dd (bJ d es[i]).1.dn (bJ d es[i]).1.da (f6 (f3 m))=_;unfold sk;refine(dW rfl).trans ?_;rw[eY i ab]
    exact O2 (cr:=false) h hi (λd j k q c1 c2 c3 c4=>ih (i+1) d j k q false ab hi c1 c2 c3 c4) b2 ab (λ_=>rfl) λhc=>nomatch hc
  ·have:i=es.length:=ab
   subst this;refine(bT (dF ae)).trans ?_;exact Yf h hd h0 h1
theorem aw(t:pS)(es:ah Rec)(sy:ah Bool)(yG kp:Int)(hk:Lit.wf (.int .u16 kp)=true):f0 t es sy yG kp=aq true:=by
 have rm:0<=kp/\kp<=65535:=by
  simp[Lit.wf,IntKind.min,IntKind.max,IntKind.signed,IntKind.bits]at hk;omega
 show cX t es sy yG kp f1=_;unfold cX;refine(bT rfl).trans ?_;cases e1:BC t with
 |false=>exact dW rfl
 |true=>
  refine(bT rfl).trans ?_;cases e2:bz (12:Int) (Int.ofNat es.length)with
  |true=>exact dW rfl
  |false=>
   refine(bT rfl).trans ?_;cases e3:bz (20:Int) (Int.ofNat sy.length)with
   |true=>exact dW rfl
   |false=>
    refine(bT rfl).trans ?_;cases e4:bz yG (-1:Int)with
    |true=>exact dW rfl
    |false=>
     refine(bT rfl).trans ?_;cases e5:bz (1048576:Int) yG with
     |true=>exact dW rfl
     |false=>
      have hl:=oD e2;simp only[aW]at hl;refine(bT rfl).trans ((encode.bD (c_ ab)).trans ?_)
      cases e6:List.any es qc with
      |true=>exact dW rfl
      |false=>
       refine(bT rfl).trans ?_;have he:∀r∈es,jI r=true:=λr hr=>by
        have:=gC.1 e6 r hr;simp only[qc,eX,not_or,cF,Bool.not_eq_false]at this;exact this.2.2
       simp only[BC,aj,cF]at e1;obtain⟨a1,a2,a3,a4,a5,a6,a7⟩:=e1;have hn:=BV a1;show dR es sy yG kp t.tn t.tk t.ts t.tl t.tv t.tp t.tt t.to (f3 100000)=_;unfold dR;refine(encode.bD (eP.2 ⟨hn,a4,a7,λr hr=>vJ (he r hr),ab⟩)).trans ?_;cases e7:runT t es with
       |none=>exact dW (by show(!(runT t es).isSome)=true;rw[e7];rfl)
       |some z=>
        have h:Fit t es z:=⟨hn,a4,a5,a6,a7,he,ab,e7⟩
        refine(bT (by show(!(runT t es).isSome)=false;rw[e7];rfl)).trans ?_;have f1:GA yG=0:=by unfold GA;rw[e4,e5];rfl
        have f2:xe yG=⟨[],0,yG⟩:=by unfold xe;rw[e4,e5];rfl
        have f3:Kp ⟨t.tn,t.tk,t.ts,t.tl,t.tv,t.tp,t.tt,t.to⟩ es=z:=by show(runT t es).elim [] id=z;rw[e7];rfl
        rw[f1,f2,f3]
        refine(bT rfl).trans ?_;have z4:=oD e4;have z5:=oD e5;exact sZ h rm.1 rm.2 100000 0 ⟨[],0,yG⟩ 0 0 [] false ab (eS _) ⟨eS _,aY _,rfl,vz,ae,rfl,⟨by show-1<=yG;omega,by show yG<=1048576;omega⟩,.inl rfl⟩ (aY _) (λ_=>rfl) λhc=>nomatch hc
def c:Ct:=⟨3,cj (A5 (aR .rp) (bL .jt) (bL .bool) aI (aK .u16) λt es sy yG kp=>(Lit.wf (.int .u16 kp),.bool (true))),ir call3 func3 (a5 λt es sy yG kp e_=>(run t es sy yG kp).trans (aw t es sy yG kp e_))⟩
end Ll
end
end Go.Proofs.YtfmamkmmohilgaaGreatDoor
