/- Contracts of functions that the law reaches, third part; the links out of each node, walked by hand. Conditions: each contract's own precondition. -/
import Derived.Test.YtfmamkmmohilgaaGreatDoorVM
import Derived.OrdersHeld
namespace Go.Proofs.YtfmamkmmohilgaaGreatDoor
open Go.Proofs.Tryz IntKind
set_option linter.all false
set_option maxRecDepth 100000
noncomputable section
def uO(l:ah cK)(x:cJ):Bool:=(x.lk !=1)||List.any l (gx x.lc)
def unknown(l:ah cK)(x:cJ):Bool:= !(uO l x)
def th(l:ah cK)(_:cJ):Bool:=bU l.length 90000
def Aw(n:Net)(l:ah cK)(x:cJ):Bool:=gm n&&(dV (dX n x.lf) n.ct.length&&(bU x.lv.length 90000&&(bU l.length 90000&&((x.lk !=1)||dV (dM (gx x.lc) 0 l) l.length))))
def BT(n:Net)(l:ah cK)(x:cJ)(v:ah Int):Bool:=Aw n l x&&(dV (dX n x.lf) v.length&&dV (dX n x.lt) v.length)
namespace Cs
theorem rel{S:Nat->Prop}{ρ:eJ}{w:World}{l:ah Node}{vs:Array Value}(h6:pb E S ρ w [.agg [.au .node l,.cL]] vs):pb E S ρ w [.agg [.au .node l,.au .link []]] vs:=by
 refine⟨h6.1,λi c v hc hv=>?_⟩
 match i,hc,hv with
 |0,hc,hv=>
  cases hc;have hr:=h6.2 0 _ v rfl hv;cases hr with
  |agg cs MO hl hh=>
   refine .agg _ _ hl λj c v hc hv=>?_
   match j,hc,hv with
   |0,hc,hv=>exact hh 0 c v hc hv
   |1,hc,hv=>
    cases hc;have:=hh 1 _ v rfl hv;cases this;exact .jy _ _ _
   |j+2,hc,hv=>cases hc
 |i+1,hc,hv=>cases hc
theorem spec(l:ah Node)(h:gm ⟨l,[]⟩=true):cV prog E 53 [.agg [.au .node l,.cL]] (.bool (eR ⟨l,[]⟩)) []\/yH prog E 53 [.agg [.au .node l,.cL]] (.bool (eR ⟨l,[]⟩)) []:=by
 have e:nS.c.s [.agg [.au .node l,.au .link []]] (λv h=>some (v,h))=some (.bool (eR ⟨l,[]⟩),[]):=by
  show aU (gm ⟨l,[]⟩) _=_;rw[h];rfl
 obtain⟨res,ex,hs,he⟩:=nS.c.ok.ok _ _ _ e;cases he;rcases hs with⟨h1,h2,h3⟩|⟨h1,h3⟩
 ·exact .inl ⟨h1,h2,λS w vs h4 h5 h6=>h3 S w vs h4 h5 (rel h6)⟩
 ·exact .inr ⟨h1,λS w vs h4 h6=>h3 S w vs h4 (rel h6)⟩
def sp:Sp U El:=λargs k=>match args with
 |[.agg [.au .node l,.cL]]=>aU (gm ⟨l,[]⟩) (k (.bool (eR ⟨l,[]⟩)) [])
 |_=>nS.c.s args k
theorem du:gQ prog E 53 sp where
 pe:=λvs=>by
  unfold sp;split
  ·exact kK _ _ _
  ·exact nS.c.ok.pe _
 ok:=λvs k r h=>by
  unfold sp at h;split at h
  ·obtain⟨h1,h2⟩:=aQ h;exact⟨_,_,spec _ h1,h2⟩
  ·exact nS.c.ok.ok _ _ _ h
end Cs
namespace wO
variable(n:Node)
def X:=dp [⟨53,Cs.sp,Cs.du⟩] 7
def f0:R:=aU (gm (⟨([n]:ah Node),([]:ah cJ)⟩:Net)) (aq (eR (⟨([n]:ah Node),([]:ah cJ)⟩:Net)))
theorem run:ca X (dG f198) .d (cS [2]) [2] [] [eA .node n]=f0 n:=aa
theorem bE:jF qB (f0 n):=by unfold f0;repeat' first|exact okB _|(refine Is.aU (by rfl) ?_)|(refine Is.fy (λ_=>?_) (λ_=>?_))
def P:Bool:=De qB (f0 n)
theorem aw:f0 n=some (qB (P n)):=(bE n).iJ
def c:Ct:=⟨198,dU (A1 (aR .node) λn=>(qB (P n)).1),oS call198 func198 (a1 λn=>(run n).trans (bE n).iJ)⟩
end wO
theorem FM{x:Node}(h:wO.P x=true):pv x=true:=by have e:=wO.aw x;have:eR ⟨[x],[]⟩=wO.P x:=congrArg (λr:R=>match r with|some (.bool b,_)=>b|_=>false) e;rw[h]at this;exact tL this x (cz.2 rfl)
namespace Dx
variable(n:Node)
def X:=dp [PR.c,wO.c] 9
def f0:R:=ai (!(wO.P n)) (some ((.bP [.int .i64 (0:Int),.int .i64 (1:Int)]),[])) (aU (tm n) (some ((.bP [.int .i64 (yf n),.int .i64 (0:Int)]),[])))
theorem run:ca X (dG f234) .d (cS [2,3]) [2,3] [] [eA .node n]=f0 n:=aa
theorem bE:jF kX (f0 n):=by unfold f0;repeat' first|exact j3 _ _|(refine Is.aU (by exact wW (FM (Bi ‹_›))) ?_)|(refine Is.fy (λ_=>?_) (λ_=>?_))
def P:Int×Int:=De kX (f0 n)
theorem aw:f0 n=some (kX (P n)):=(bE n).iJ
def c:Ct:=⟨234,dU (A1 (aR .node) λn=>(kX (P n)).1),oS call234 func234 (a1 λn=>(run n).trans (bE n).iJ)⟩
end Dx
namespace uE
variable(n:Node)(v:Int)
def X:=dp [BD.c] 25
def f0:R:=ai (n.nk==(3:Int)) (some ((.bP [.int .i64 n.ni,.int .i64 (0:Int)]),[])) (some ((.bP [(.int .i64 (i64.wrap (n.ni+((BD.P n.nh v).1)))),(.int .i64 ((BD.P n.nh v).2))]),[]))
theorem run:ca X (dG f156) .d (cS [4,5]) [4,5] [] [eA .node n,.int .i64 v]=f0 n v:=aa
theorem bE:jF kX (f0 n v):=by unfold f0;repeat' first|exact j3 _ _|(refine Is.fy (λ_=>?_) (λ_=>?_))
def P:Int×Int:=De kX (f0 n v)
theorem aw:f0 n v=some (kX (P n v)):=(bE n v).iJ
def c:Ct:=⟨156,dU (A2 (aR .node) aI λn v=>(kX (P n v)).1),oS call156 func156 (a2 λn v=>(run n v).trans (bE n v).iJ)⟩
end uE
namespace YD
def X:=dp [FD.c] 7
def f0(n:Node)(v:Int):R:=aq (bg 0 v&&bg v 1125899906842624)
theorem run(n v):ca X (dG f155) .d (cS [4]) [4] [] [eA .node n,.int .i64 v]=f0 n v:=aa
theorem aw(n:Node)(v:Int):f0 n v=aq (bg 0 v&&bg v 1125899906842624):=rfl
def c:Ct:=⟨155,dU (A2 (aR .node) aI λn v=>(.bool (bg 0 v&&bg v 1125899906842624))),oS call155 func155 (a2 λn v=>(run n v).trans (aw n v))⟩
end YD
theorem xq{α:Type}{l:ah α}{x:α}{k:Nat}(h:l.length<=1000000)(hk:k<=1000:=by decide):(bU ((l.length+List.length [x])*k) 140737488355328&&bU (l.length+List.length [x]) 9223372036854775807)=true:=by have:(l.length+List.length [x])*k<=(l.length+1)*1000:=Nat.mul_le_mul_left _ hk;exact eN (c_ ab) (c_ (by simp;omega))
namespace yZ
variable(l1:ah Int)(pA:ah Node)(gB dB:Int)(cA:ah Node)(gA:ah Int)(n:Net)(l:ah Int)(ns:ah Node)
def X:=dp [nS.c,YD.c,uE.c] 72
def bd:=dG f154
def fM:Norm U:=⟨[],[8,9],[],[(8,.int)],[],[],[]⟩
def RR:bn U El:=λst=>cN fM st (ch [8,9] [])
def eE:Norm U:=⟨[],[1,3,4],[4],[],[],[],[(4,0,.node),(4,1,.link)]⟩
def dI:Norm U:=⟨[],[1,2,3,4,29,30,31],[4],[],[],[],[(4,0,.node),(4,1,.link)]⟩
def jY:Norm U:=⟨[(12,.int)],[12],[12],[],[],[],[]⟩
def xT:Norm U:=⟨[(12,.int)],[1,3,12,46,47,48],[12],[],[],[],[]⟩
def an:gb U:=(.seq none .d (.seq none .d (.seq (some eE) (.seq none .d (.block (.loop dI .d))) (.seq none .d (.seq (some jY) (.seq none .d (.block (.loop xT .d))) .d)))))
abbrev Y1:=(ah Int)->(ah Node)->(ah cJ)->R
abbrev Y2:=(ah Int)->(ah Node)->Int->Int->(ah Node)->(ah cJ)->R
abbrev Y3:=(ah Int)->R
abbrev Y4:=(ah Int)->(ah Int)->(ah Node)->Int->Int->R
def fY(bA:ah cJ):St U El:=⟨[(1,.au .int l1),(2,.fn 155 [] []),(3,.fn 156 [] []),(4,.ptr 4 0),(29,.au .node pA),(30,.int .i64 gB),(31,.int .i64 dB)],[(4,.box 0 [.au .node cA,.au .link bA])]⟩
def J1(cB:ah Node)(iB wA:Int):St U El:=⟨[(1,.au .int l1),(3,.fn 156 [] []),(12,.cf 12),(46,.au .node cB),(47,.int .i64 iB),(48,.int .i64 wA)],[(12,.rows .int gA)]⟩
def cX(k2:Y2):R:=aU (gm n) (ai (!(eR n)) (some ((.bP [(.au .int ([]:ah Int)),.int .i64 (1:Int)]),[])) (ai ((Int.ofNat l.length) !=(Int.ofNat n.ct.length)) (some ((.bP [(.au .int ([]:ah Int)),.int .i64 (3:Int)]),[])) (k2 l n.ct (Int.ofNat n.ct.length) (0:Int) n.ct n.cD)))
def dR(bA:ah cJ)(k4:Y4):R:=k4 l1 ([]:ah Int) cA (Int.ofNat cA.length) (0:Int)
def dQ(bA:ah cJ)(k1:Y1)(k2:Y2):R:=ai (bz dB gB) (aU (dV dB pA.length) (aU (dV dB l1.length) (ai (!(bg 0 (l1.getD dB.toNat bF)&&bg (l1.getD dB.toNat bF) 1125899906842624)) (some ((.bP [(.au .int ([]:ah Int)),.int .i64 (2:Int)]),[])) (k2 l1 pA gB (i64.wrap (dB+(1:Int))) cA bA)))) (k1 l1 cA bA)
def gf:R:=some ((.bP [.au .int gA,.int .i64 (0:Int)]),[])
def l_(cB:ah Node)(iB wA:Int)(k3:Y3)(k4:Y4):R:=ai (bz wA iB) (aU (dV wA cB.length) (aU (dV wA l1.length) (ai (((uE.P (cB.getD wA.toNat fU) (l1.getD wA.toNat bF)).2) !=(0:Int)) (some ((.bP [(.au .int ([]:ah Int)),(.int .i64 ((uE.P (cB.getD wA.toNat fU) (l1.getD wA.toNat bF)).2))]),[])) (aU (bU ((List.length gA+List.length ([((uE.P (cB.getD wA.toNat fU) (l1.getD wA.toNat bF)).1)]:ah Int))*8) 140737488355328&&bU (List.length gA+List.length ([((uE.P (cB.getD wA.toNat fU) (l1.getD wA.toNat bF)).1)]:ah Int)) 9223372036854775807) (k4 l1 (gA++([((uE.P (cB.getD wA.toNat fU) (l1.getD wA.toNat bF)).1)]:ah Int)) cB iB (i64.wrap (wA+(1:Int)))))))) (k3 gA)
abbrev ex:=kf X bd an RR
abbrev it:=nO X bd an RR
def gu(gW:bn U El):=it dI [1,1,0,1,0,0] (cu 1 (bG eE gW) nE)
def JY(oV:bn U El):=it xT [1,1,1,1,0,1,0,0] (cu 3 (bG jY oV) nE)
def cQ:=ex [1,1,1] RR nE
def mz:=ex [1,1,1,1,1] RR nE
def f3:R:=gf gA
def f4:Nat->Y4
 |0=>λ_ _ _ _ _=>none
 |n+1=>λl1 gA cB iB wA=>l_ l1 gA cB iB wA f3 (f4 n)
def f1(bA:ah cJ):R:=dR l1 cA bA (f4 100000)
def f2:Nat->Y2
 |0=>λ_ _ _ _ _ _=>none
 |n+1=>λl1 pA gB dB cA bA=>dQ l1 pA gB dB cA bA f1 (f2 n)
def f0:R:=cX n l (f2 100000)
theorem E3:(λgA=>(hid mz) ⟨[(12,.cf 12)],[(12,.rows .int gA)]⟩)=f3:=by funext gA;refine cm ?_;unfold f3;exact aa
theorem T4:∀n,(λl1 gA cB iB wA=>JY (hid mz) n (J1 l1 gA cB iB wA))=f4 n:=by
 intro n;induction n with
 |zero=>rfl
 |succ n ih=>funext l1 gA cB iB wA;rw[f4];rw[<-E3,<-ih];exact aa
theorem H4:(λl1 gA cB iB wA=>hid (JY (hid mz) 100000) (J1 l1 gA cB iB wA))=f4 100000:=by rw[cM];exact(T4 100000)
theorem E1:(λl1 cA bA=>(hid cQ) ⟨[(1,.au .int l1),(3,.fn 156 [] []),(4,.ptr 4 0)],[(4,.box 0 [.au .node cA,.au .link bA])]⟩)=f1:=by funext l1 cA bA;refine cm ?_;unfold f1;rw[<-H4];exact aa
theorem T2:∀n,(λl1 pA gB dB cA bA=>gu (hid cQ) n (fY l1 pA gB dB cA bA))=f2 n:=by
 intro n;induction n with
 |zero=>rfl
 |succ n ih=>funext l1 pA gB dB cA bA;rw[f2];rw[<-E1,<-ih];exact aa
theorem H2:(λl1 pA gB dB cA bA=>hid (gu (hid cQ) 100000) (fY l1 pA gB dB cA bA))=f2 100000:=by rw[cM];exact(T2 100000)
theorem run:ca X bd an fM [8,9] [] [eA .mP n,.au .int l,.fn 155 [] [],.fn 156 [] []]=f0 n l:=by unfold f0;rw[<-H2];exact aa
abbrev Ok:=jF (IZ .int)
theorem HK(o:ah Int)(e:Int):Ok (some (.bP [.au .int o,.int .i64 e],[])):=.mk (q:=IZ .int) (o,e)
theorem Li(hn:ns.length<=300)(hl:l.length=ns.length):∀(n i:Nat) (out:ah Int),ns.length<n+i->i<=ns.length->out.length=i->Ok (f4 n l out ns (Int.ofNat ns.length) (i:Int)):=by
 intro n;induction n with
 |zero=>intro i out h1 h2;omega
 |succ n ih=>
  intro i out h1 h2 h3;show Ok (l_ l out ns (Int.ofNat ns.length) (i:Int) f3 (f4 n))
  unfold l_;by_cases hi:i<ns.length
  ·rw[eh (by simp;omega),c9 hi,c9 (show i<l.length by omega),eY i ab]
   simp only[eZ,ee]
   exact .fy (λ_=>HK _ _) λ_=>.aU (xq ab) (ih _ _ ab hi (by simp[h3]))
  ·have:i=ns.length:=ab
   subst this;rw[dF ae]
   exact HK _ _
theorem h_(ks:ah cJ)(hn:ns.length<=300)(hl:l.length=ns.length):∀(n i:Nat),ns.length<n+i->i<=ns.length->Ok (f2 n l ns (Int.ofNat ns.length) (i:Int) ns ks):=by
 intro n;induction n with
 |zero=>intro i h1 h2;omega
 |succ n ih=>
  intro i h1 h2;show Ok (dQ l ns (Int.ofNat ns.length) (i:Int) ns ks f1 (f2 n))
  unfold dQ;by_cases hi:i<ns.length
  ·rw[eh (by simp;omega),c9 hi,c9 (show i<l.length by omega),eY i ab]
   simp only[eZ,ee]
   exact .fy (λ_=>HK _ _) λ_=>ih _ ab hi
  ·have:i=ns.length:=ab
   subst this;rw[dF ae]
   exact Li l ns hn hl 100000 0 [] ab ab rfl
theorem bE(h:gm n=true):Ok (f0 n l):=by
 show Ok (cX n l (f2 100000))
 refine .aU h (.fy (λ_=>HK _ _) λhb=>.fy (λ_=>HK _ _) λhl=>?_)
 have hn:=(kF (Bi hb)).1;exact h_ l n.ct n.cD hn (hO (bne_eq_false_iff_eq.mp hl)) 100000 0 ab ab
def P:ah Int×Int:=Classical.epsilon λa=>f0 n l=some (IZ .int a)
theorem aw(h:gm n=true):f0 n l=some (IZ .int (P n l)):=(bE n l h).iJ
def g:ah (AV U El)->Option (Bool×AV U El)
 |[.agg [.au .node jn,.au .link jo],.au .int l,.fn 155 [] [],.fn 156 [] []]=>some ((gm (⟨jn,jo⟩:Net)),(.bP [(.au .int ((yZ.P (⟨jn,jo⟩:Net) l).1)),(.int .i64 ((yZ.P (⟨jn,jo⟩:Net) l).2))]))
 |_=>none
def c:Ct:=⟨154,cj g,ir call154 func154 λvs v h e=>by
 unfold g at h;split at h;cases h;exact(run ⟨_,_⟩ _).trans (aw ⟨_,_⟩ _ e);cases h⟩
end yZ
namespace cG
variable(n:Net)(l:ah Int)
def X:=dp [yZ.c] 11
def fM:Norm U:=⟨[],[4,5],[],[(4,.int)],[],[],[]⟩
def f0:R:=aU (gm n) (some ((.bP [(.au .int ((yZ.P n l).1)),(.int .i64 ((yZ.P n l).2))]),[]))
theorem run:ca X (dG f91) .d fM [4,5] [] [eA .mP n,.au .int l]=f0 n l:=aa
def P:ah Int×Int:=yZ.P n l
theorem aw(h:gm n=true):f0 n l=some (IZ .int (P n l)):=by unfold f0;rw[h];rfl
def c:Ct:=⟨91,cj (A2 (aR .mP) (bL .int) λn l=>(gm n,(.bP [(.au .int ((cG.P n l).1)),(.int .i64 ((cG.P n l).2))]))),ir call91 func91 (a2 λn l e_=>(run n l).trans (aw n l e_))⟩
end cG
namespace HR
variable(n:Node)(v:Int)
def X:=dp [] 15
def f0:R:=ai (bg n.ni v) (aq (bg v n.ng)) (aq false)
theorem run:ca X (dG f364) .d (cS [4]) [4] [] [eA .node n,.int .i64 v]=f0 n v:=aa
theorem aw:f0 n v=aq (bg n.ni v&&bg v n.ng):=by unfold f0;cases bg n.ni v<;>rfl
def c:Ct:=⟨364,dU (A2 (aR .node) aI λn v=>(.bool (bg (Node.ni n) v&&bg v (Node.ng n)))),oS call364 func364 (a2 λn v=>(run n v).trans (aw n v))⟩
end HR
namespace YY
def X:=dp [] 9
def f0(x:Node)(a b c:ah UInt8)(d e f g:Int)(m:ah UInt8)(o p:Int)(q:ah cH):R:=aq (x.nn==b)
theorem run(x a b c d e f g m o p q):ca X (dG f365) .d (cS [3]) [3] [] [eA .node x,.pcs [.str a,.str b,.str c,.int .i64 d,.int .i64 e,.int .i64 f,.int .i64 g,.str m,.int .i64 o,.int .i64 p,.au .cP q] 0]=f0 x a b c d e f g m o p q:=aa
theorem aw(x:Node)(a b c:ah UInt8)(d e f g:Int)(m:ah UInt8)(o p:Int)(q:ah cH):f0 x a b c d e f g m o p q=aq (isNode b x):=rfl
def g:ah (AV U El)->Option (AV U El)
 |[.agg [.str Ke,.int .i64 Kf,.int .i64 Ka,.int .i64 J',.int .i64 Kg,.int .i64 Ki,.au .cP Kh,.bool Kc,.int .i64 Kb],.pcs [.str a,.str b,.str c,.int .i64 d,.int .i64 e,.int .i64 f,.int .i64 g,.str m,.int .i64 o,.int .i64 p,.au .cP q] 0]=>some (.bool ((isNode b) (⟨Ke,Kf,Ka,J',Kg,Ki,Kh,Kc,Kb⟩:Node)))
 |_=>none
def c:Ct:=⟨365,dU g,oS call365 func365 λvs v h=>by
 unfold g at h;split at h;cases h;exact(run ⟨_,_,_,_,_,_,_,_,_⟩ _ _ _ _ _ _ _ _ _ _ _).trans (aw ⟨_,_,_,_,_,_,_,_,_⟩ _ _ _ _ _ _ _ _ _ _ _);cases h⟩
end YY
namespace Qn
def X:=dp [YY.c] 19
def g:ah (AV U El)->Option (Bool×AV U El)
 |[.au .node l,.fn 365 [] [.pcs [.str a,.str b,.str c,.int .i64 d,.int .i64 e,.int .i64 f,.int .i64 g,.str m,.int .i64 o,.int .i64 p,.au .cP q] 0]]=>some (bU l.length 90000,(.int .i64 (dM (isNode b) 0 l)))
 |_=>none
def c:Ct:=⟨143,cj g,ir call143 func143 λvs v h e=>by
 unfold g at h;split at h;cases h;exact qt (X:=X) e aa (λ_ _ _=>aa) aa;cases h⟩
end Qn
namespace YX
def X:=dp [] 9
def f0(x:Node)(a b c:ah UInt8)(d e f g:Int)(m:ah UInt8)(o p:Int)(q:ah cH):R:=aq (x.nn==c)
theorem run(x a b c d e f g m o p q):ca X (dG f366) .d (cS [3]) [3] [] [eA .node x,.pcs [.str a,.str b,.str c,.int .i64 d,.int .i64 e,.int .i64 f,.int .i64 g,.str m,.int .i64 o,.int .i64 p,.au .cP q] 0]=f0 x a b c d e f g m o p q:=aa
theorem aw(x:Node)(a b c:ah UInt8)(d e f g:Int)(m:ah UInt8)(o p:Int)(q:ah cH):f0 x a b c d e f g m o p q=aq (isNode c x):=rfl
def g:ah (AV U El)->Option (AV U El)
 |[.agg [.str Ke,.int .i64 Kf,.int .i64 Ka,.int .i64 J',.int .i64 Kg,.int .i64 Ki,.au .cP Kh,.bool Kc,.int .i64 Kb],.pcs [.str a,.str b,.str c,.int .i64 d,.int .i64 e,.int .i64 f,.int .i64 g,.str m,.int .i64 o,.int .i64 p,.au .cP q] 0]=>some (.bool ((isNode c) (⟨Ke,Kf,Ka,J',Kg,Ki,Kh,Kc,Kb⟩:Node)))
 |_=>none
def c:Ct:=⟨366,dU g,oS call366 func366 λvs v h=>by
 unfold g at h;split at h;cases h;exact(run ⟨_,_,_,_,_,_,_,_,_⟩ _ _ _ _ _ _ _ _ _ _ _).trans (aw ⟨_,_,_,_,_,_,_,_,_⟩ _ _ _ _ _ _ _ _ _ _ _);cases h⟩
end YX
namespace Qm
def X:=dp [YX.c] 19
def g:ah (AV U El)->Option (Bool×AV U El)
 |[.au .node l,.fn 366 [] [.pcs [.str a,.str b,.str c,.int .i64 d,.int .i64 e,.int .i64 f,.int .i64 g,.str m,.int .i64 o,.int .i64 p,.au .cP q] 0]]=>some (bU l.length 90000,(.int .i64 (dM (isNode c) 0 l)))
 |_=>none
def c:Ct:=⟨143,cj g,ir call143 func143 λvs v h e=>by
 unfold g at h;split at h;cases h;exact qt (X:=X) e aa (λ_ _ _=>aa) aa;cases h⟩
end Qm
namespace HV
variable(n:Net)(l:cJ)
def X:=dp [⟨143,Vl 366 Qn.c.s Qm.c.s,P5 Qn.c.ok Qm.c.ok⟩] 16
def f0:R:=aU (bU n.ct.length 90000) (aU (bU n.ct.length 90000) (some ((.bP [(.int .i64 (dM (isNode l.lf) 0 n.ct)),(.int .i64 (dM (isNode l.lt) 0 n.ct))]),[])))
theorem run:ca X (dG f308) .d (cS [4,5]) [4,5] [] [eA .mP n,eA .link l]=f0 n l:=aa
theorem aw(h:gm n=true):f0 n l=some (kX (dX n l.lf,dX n l.lt)):=by unfold f0;rw[o0 h];rfl
def c:Ct:=⟨308,cj (A2 (aR .mP) (aR .link) λn l=>(gm n,(.bP [(.int .i64 (dX n (cJ.lf l))),(.int .i64 (dX n (cJ.lt l)))]))),ir call308 func308 (a2 λn l e_=>(run n l).trans (aw n l e_))⟩
end HV
namespace Tm
def X:=dp [] 9
def f0(x:cK)(a b c:ah UInt8)(d e f g:Int)(m:ah UInt8)(o p:Int)(q:ah cH):R:=aq (x.sn==m)
theorem run(x a b c d e f g m o p q):ca X (dG f370) .d (cS [3]) [3] [] [eA .dj x,.pcs [.str a,.str b,.str c,.int .i64 d,.int .i64 e,.int .i64 f,.int .i64 g,.str m,.int .i64 o,.int .i64 p,.au .cP q] 0]=f0 x a b c d e f g m o p q:=aa
theorem aw(x:cK)(a b c:ah UInt8)(d e f g:Int)(m:ah UInt8)(o p:Int)(q:ah cH):f0 x a b c d e f g m o p q=aq (gx m x):=rfl
def g:ah (AV U El)->Option (AV U El)
 |[.agg [.str J7,.int .i64 J8,.int .i64 J6,.au .cP J_,.au .cP J9],.pcs [.str a,.str b,.str c,.int .i64 d,.int .i64 e,.int .i64 f,.int .i64 g,.str m,.int .i64 o,.int .i64 p,.au .cP q] 0]=>some (.bool ((gx m) (⟨J7,J8,J6,J_,J9⟩:cK)))
 |_=>none
def c:Ct:=⟨370,dU g,oS call370 func370 λvs v h=>by
 unfold g at h;split at h;cases h;exact(run ⟨_,_,_,_,_⟩ _ _ _ _ _ _ _ _ _ _ _).trans (aw ⟨_,_,_,_,_⟩ _ _ _ _ _ _ _ _ _ _ _);cases h⟩
end Tm
namespace Pd
def X:=dp [Tm.c] 19
def g:ah (AV U El)->Option (Bool×AV U El)
 |[.au .dj l,.fn 370 [] [.pcs [.str a,.str b,.str c,.int .i64 d,.int .i64 e,.int .i64 f,.int .i64 g,.str m,.int .i64 o,.int .i64 p,.au .cP q] 0]]=>some (bU l.length 90000,(.int .i64 (dM (gx m) 0 l)))
 |_=>none
def c:Ct:=⟨145,cj g,ir call145 func145 λvs v h e=>by
 unfold g at h;split at h;cases h;exact qt (X:=X) e aa (λ_ _ _=>aa) aa;cases h⟩
end Pd
namespace Pe
def X:=dp [Pd.c] 9
def g:ah (AV U El)->Option (Bool×AV U El)
 |[.au .dj l,.fn 370 [] [.pcs [.str a,.str b,.str c,.int .i64 d,.int .i64 e,.int .i64 f,.int .i64 g,.str m,.int .i64 o,.int .i64 p,.au .cP q] 0]]=>some (bU l.length 90000,(.bool (List.any l (gx m))))
 |_=>none
def c:Ct:=⟨75,cj g,ir call75 func75 λvs v h e=>by
 unfold g at h;split at h;cases h;exact cont (X:=X) e aa;cases h⟩
end Pe
namespace Lj
variable(l:ah cK)(x:cJ)
def X:=dp [Pe.c] 13
def f0:R:=ai (x.lk !=(1:Int)) (aq true) (aU (bU l.length 90000) (aq (List.any l (gx x.lc))))
theorem run:ca X (dG f311) .d (cS [4]) [4] [] [.au .dj l,eA .link x]=f0 l x:=aa
theorem aw(h:bU l.length 90000=true):f0 l x=aq (uO l x):=by
 unfold f0 uO;rw[h]
 cases x.lk !=1<;>rfl
def c:Ct:=⟨311,cj (A2 (bL .dj) (aR .link) λl x=>(bU l.length 90000,.bool (uO l x))),ir call311 func311 (a2 λl x e_=>(run l x).trans (aw l x e_))⟩
end Lj
namespace nc
def X:=dp [] 10
def f0(q e:Int):R:=ai (e==(5:Int)) (some ((.bP [.int .i64 (1099511627776:Int),.int .i64 (0:Int)]),[])) (some (.bP [.int .i64 q,.int .i64 e],[]))
theorem run(q e):ca X (dG f424) .d (cS [4,5]) [4,5] [] [.int .i64 q,.int .i64 e]=f0 q e:=aa
theorem bE(q e:Int):jF kX (f0 q e):=by unfold f0;repeat' first|exact j3 _ _|(refine Is.fy (λ_=>?_) (λ_=>?_))
def P(q e:Int):Int×Int:=De kX (f0 q e)
theorem aw(q e:Int):f0 q e=some (kX (P q e)):=(bE q e).iJ
def c:Ct:=⟨424,dU (A2 aI aI λq e=>(kX (P q e)).1),oS call424 func424 (a2 λq e=>(run q e).trans (bE q e).iJ)⟩
end nc
namespace HS
variable(x:cJ)(s:cK)(up down:Int)
def X:=dp [nc.c,mK.c] 41
def f0:R:=some ((.bP [(.int .i64 ((nc.P ((mK.P s (bif bz (0:Int) (bif bz s.sh (i64.wrap (up-x.lu))then s.sh else(i64.wrap (up-x.lu)))then(bif bz s.sh (i64.wrap (up-x.lu))then s.sh else(i64.wrap (up-x.lu)))else(0:Int)) (bif bz (0:Int) (bif bz (4194304:Int) (i64.wrap (up-(bif bz down (i64.wrap (x.ld+(bif bz (0:Int) (bif bz s.sh (i64.wrap (up-x.lu))then s.sh else(i64.wrap (up-x.lu)))then(bif bz s.sh (i64.wrap (up-x.lu))then s.sh else(i64.wrap (up-x.lu)))else(0:Int))))then(i64.wrap (x.ld+(bif bz (0:Int) (bif bz s.sh (i64.wrap (up-x.lu))then s.sh else(i64.wrap (up-x.lu)))then(bif bz s.sh (i64.wrap (up-x.lu))then s.sh else(i64.wrap (up-x.lu)))else(0:Int))))else down)))then(4194304:Int)else(i64.wrap (up-(bif bz down (i64.wrap (x.ld+(bif bz (0:Int) (bif bz s.sh (i64.wrap (up-x.lu))then s.sh else(i64.wrap (up-x.lu)))then(bif bz s.sh (i64.wrap (up-x.lu))then s.sh else(i64.wrap (up-x.lu)))else(0:Int))))then(i64.wrap (x.ld+(bif bz (0:Int) (bif bz s.sh (i64.wrap (up-x.lu))then s.sh else(i64.wrap (up-x.lu)))then(bif bz s.sh (i64.wrap (up-x.lu))then s.sh else(i64.wrap (up-x.lu)))else(0:Int))))else down))))then(bif bz (4194304:Int) (i64.wrap (up-(bif bz down (i64.wrap (x.ld+(bif bz (0:Int) (bif bz s.sh (i64.wrap (up-x.lu))then s.sh else(i64.wrap (up-x.lu)))then(bif bz s.sh (i64.wrap (up-x.lu))then s.sh else(i64.wrap (up-x.lu)))else(0:Int))))then(i64.wrap (x.ld+(bif bz (0:Int) (bif bz s.sh (i64.wrap (up-x.lu))then s.sh else(i64.wrap (up-x.lu)))then(bif bz s.sh (i64.wrap (up-x.lu))then s.sh else(i64.wrap (up-x.lu)))else(0:Int))))else down)))then(4194304:Int)else(i64.wrap (up-(bif bz down (i64.wrap (x.ld+(bif bz (0:Int) (bif bz s.sh (i64.wrap (up-x.lu))then s.sh else(i64.wrap (up-x.lu)))then(bif bz s.sh (i64.wrap (up-x.lu))then s.sh else(i64.wrap (up-x.lu)))else(0:Int))))then(i64.wrap (x.ld+(bif bz (0:Int) (bif bz s.sh (i64.wrap (up-x.lu))then s.sh else(i64.wrap (up-x.lu)))then(bif bz s.sh (i64.wrap (up-x.lu))then s.sh else(i64.wrap (up-x.lu)))else(0:Int))))else down))))else(0:Int)) x.ll).1) ((mK.P s (bif bz (0:Int) (bif bz s.sh (i64.wrap (up-x.lu))then s.sh else(i64.wrap (up-x.lu)))then(bif bz s.sh (i64.wrap (up-x.lu))then s.sh else(i64.wrap (up-x.lu)))else(0:Int)) (bif bz (0:Int) (bif bz (4194304:Int) (i64.wrap (up-(bif bz down (i64.wrap (x.ld+(bif bz (0:Int) (bif bz s.sh (i64.wrap (up-x.lu))then s.sh else(i64.wrap (up-x.lu)))then(bif bz s.sh (i64.wrap (up-x.lu))then s.sh else(i64.wrap (up-x.lu)))else(0:Int))))then(i64.wrap (x.ld+(bif bz (0:Int) (bif bz s.sh (i64.wrap (up-x.lu))then s.sh else(i64.wrap (up-x.lu)))then(bif bz s.sh (i64.wrap (up-x.lu))then s.sh else(i64.wrap (up-x.lu)))else(0:Int))))else down)))then(4194304:Int)else(i64.wrap (up-(bif bz down (i64.wrap (x.ld+(bif bz (0:Int) (bif bz s.sh (i64.wrap (up-x.lu))then s.sh else(i64.wrap (up-x.lu)))then(bif bz s.sh (i64.wrap (up-x.lu))then s.sh else(i64.wrap (up-x.lu)))else(0:Int))))then(i64.wrap (x.ld+(bif bz (0:Int) (bif bz s.sh (i64.wrap (up-x.lu))then s.sh else(i64.wrap (up-x.lu)))then(bif bz s.sh (i64.wrap (up-x.lu))then s.sh else(i64.wrap (up-x.lu)))else(0:Int))))else down))))then(bif bz (4194304:Int) (i64.wrap (up-(bif bz down (i64.wrap (x.ld+(bif bz (0:Int) (bif bz s.sh (i64.wrap (up-x.lu))then s.sh else(i64.wrap (up-x.lu)))then(bif bz s.sh (i64.wrap (up-x.lu))then s.sh else(i64.wrap (up-x.lu)))else(0:Int))))then(i64.wrap (x.ld+(bif bz (0:Int) (bif bz s.sh (i64.wrap (up-x.lu))then s.sh else(i64.wrap (up-x.lu)))then(bif bz s.sh (i64.wrap (up-x.lu))then s.sh else(i64.wrap (up-x.lu)))else(0:Int))))else down)))then(4194304:Int)else(i64.wrap (up-(bif bz down (i64.wrap (x.ld+(bif bz (0:Int) (bif bz s.sh (i64.wrap (up-x.lu))then s.sh else(i64.wrap (up-x.lu)))then(bif bz s.sh (i64.wrap (up-x.lu))then s.sh else(i64.wrap (up-x.lu)))else(0:Int))))then(i64.wrap (x.ld+(bif bz (0:Int) (bif bz s.sh (i64.wrap (up-x.lu))then s.sh else(i64.wrap (up-x.lu)))then(bif bz s.sh (i64.wrap (up-x.lu))then s.sh else(i64.wrap (up-x.lu)))else(0:Int))))else down))))else(0:Int)) x.ll).2)).1)),(.int .i64 ((nc.P ((mK.P s (bif bz (0:Int) (bif bz s.sh (i64.wrap (up-x.lu))then s.sh else(i64.wrap (up-x.lu)))then(bif bz s.sh (i64.wrap (up-x.lu))then s.sh else(i64.wrap (up-x.lu)))else(0:Int)) (bif bz (0:Int) (bif bz (4194304:Int) (i64.wrap (up-(bif bz down (i64.wrap (x.ld+(bif bz (0:Int) (bif bz s.sh (i64.wrap (up-x.lu))then s.sh else(i64.wrap (up-x.lu)))then(bif bz s.sh (i64.wrap (up-x.lu))then s.sh else(i64.wrap (up-x.lu)))else(0:Int))))then(i64.wrap (x.ld+(bif bz (0:Int) (bif bz s.sh (i64.wrap (up-x.lu))then s.sh else(i64.wrap (up-x.lu)))then(bif bz s.sh (i64.wrap (up-x.lu))then s.sh else(i64.wrap (up-x.lu)))else(0:Int))))else down)))then(4194304:Int)else(i64.wrap (up-(bif bz down (i64.wrap (x.ld+(bif bz (0:Int) (bif bz s.sh (i64.wrap (up-x.lu))then s.sh else(i64.wrap (up-x.lu)))then(bif bz s.sh (i64.wrap (up-x.lu))then s.sh else(i64.wrap (up-x.lu)))else(0:Int))))then(i64.wrap (x.ld+(bif bz (0:Int) (bif bz s.sh (i64.wrap (up-x.lu))then s.sh else(i64.wrap (up-x.lu)))then(bif bz s.sh (i64.wrap (up-x.lu))then s.sh else(i64.wrap (up-x.lu)))else(0:Int))))else down))))then(bif bz (4194304:Int) (i64.wrap (up-(bif bz down (i64.wrap (x.ld+(bif bz (0:Int) (bif bz s.sh (i64.wrap (up-x.lu))then s.sh else(i64.wrap (up-x.lu)))then(bif bz s.sh (i64.wrap (up-x.lu))then s.sh else(i64.wrap (up-x.lu)))else(0:Int))))then(i64.wrap (x.ld+(bif bz (0:Int) (bif bz s.sh (i64.wrap (up-x.lu))then s.sh else(i64.wrap (up-x.lu)))then(bif bz s.sh (i64.wrap (up-x.lu))then s.sh else(i64.wrap (up-x.lu)))else(0:Int))))else down)))then(4194304:Int)else(i64.wrap (up-(bif bz down (i64.wrap (x.ld+(bif bz (0:Int) (bif bz s.sh (i64.wrap (up-x.lu))then s.sh else(i64.wrap (up-x.lu)))then(bif bz s.sh (i64.wrap (up-x.lu))then s.sh else(i64.wrap (up-x.lu)))else(0:Int))))then(i64.wrap (x.ld+(bif bz (0:Int) (bif bz s.sh (i64.wrap (up-x.lu))then s.sh else(i64.wrap (up-x.lu)))then(bif bz s.sh (i64.wrap (up-x.lu))then s.sh else(i64.wrap (up-x.lu)))else(0:Int))))else down))))else(0:Int)) x.ll).1) ((mK.P s (bif bz (0:Int) (bif bz s.sh (i64.wrap (up-x.lu))then s.sh else(i64.wrap (up-x.lu)))then(bif bz s.sh (i64.wrap (up-x.lu))then s.sh else(i64.wrap (up-x.lu)))else(0:Int)) (bif bz (0:Int) (bif bz (4194304:Int) (i64.wrap (up-(bif bz down (i64.wrap (x.ld+(bif bz (0:Int) (bif bz s.sh (i64.wrap (up-x.lu))then s.sh else(i64.wrap (up-x.lu)))then(bif bz s.sh (i64.wrap (up-x.lu))then s.sh else(i64.wrap (up-x.lu)))else(0:Int))))then(i64.wrap (x.ld+(bif bz (0:Int) (bif bz s.sh (i64.wrap (up-x.lu))then s.sh else(i64.wrap (up-x.lu)))then(bif bz s.sh (i64.wrap (up-x.lu))then s.sh else(i64.wrap (up-x.lu)))else(0:Int))))else down)))then(4194304:Int)else(i64.wrap (up-(bif bz down (i64.wrap (x.ld+(bif bz (0:Int) (bif bz s.sh (i64.wrap (up-x.lu))then s.sh else(i64.wrap (up-x.lu)))then(bif bz s.sh (i64.wrap (up-x.lu))then s.sh else(i64.wrap (up-x.lu)))else(0:Int))))then(i64.wrap (x.ld+(bif bz (0:Int) (bif bz s.sh (i64.wrap (up-x.lu))then s.sh else(i64.wrap (up-x.lu)))then(bif bz s.sh (i64.wrap (up-x.lu))then s.sh else(i64.wrap (up-x.lu)))else(0:Int))))else down))))then(bif bz (4194304:Int) (i64.wrap (up-(bif bz down (i64.wrap (x.ld+(bif bz (0:Int) (bif bz s.sh (i64.wrap (up-x.lu))then s.sh else(i64.wrap (up-x.lu)))then(bif bz s.sh (i64.wrap (up-x.lu))then s.sh else(i64.wrap (up-x.lu)))else(0:Int))))then(i64.wrap (x.ld+(bif bz (0:Int) (bif bz s.sh (i64.wrap (up-x.lu))then s.sh else(i64.wrap (up-x.lu)))then(bif bz s.sh (i64.wrap (up-x.lu))then s.sh else(i64.wrap (up-x.lu)))else(0:Int))))else down)))then(4194304:Int)else(i64.wrap (up-(bif bz down (i64.wrap (x.ld+(bif bz (0:Int) (bif bz s.sh (i64.wrap (up-x.lu))then s.sh else(i64.wrap (up-x.lu)))then(bif bz s.sh (i64.wrap (up-x.lu))then s.sh else(i64.wrap (up-x.lu)))else(0:Int))))then(i64.wrap (x.ld+(bif bz (0:Int) (bif bz s.sh (i64.wrap (up-x.lu))then s.sh else(i64.wrap (up-x.lu)))then(bif bz s.sh (i64.wrap (up-x.lu))then s.sh else(i64.wrap (up-x.lu)))else(0:Int))))else down))))else(0:Int)) x.ll).2)).2))]),[])
theorem run:ca X (dG f423) .d (cS [8,9]) [8,9] [] [eA .link x,eA .dj s,.int .i64 up,.int .i64 down]=f0 x s up down:=aa
theorem bE:jF kX (f0 x s up down):=by unfold f0;repeat' first|exact j3 _ _|(refine Is.fy (λ_=>?_) (λ_=>?_))
def P:Int×Int:=De kX (f0 x s up down)
theorem aw:f0 x s up down=some (kX (P x s up down)):=(bE x s up down).iJ
def c:Ct:=⟨423,dU (A4 (aR .link) (aR .dj) aI aI λx s up down=>(kX (P x s up down)).1),oS call423 func423 (a4 λx s up down=>(run x s up down).trans (bE x s up down).iJ)⟩
end HS
namespace YZ
def X:=dp [] 9
def f0(x:cK)(a b c:ah UInt8)(d e f g:Int)(m:ah UInt8)(o p:Int)(q:ah cH):R:=aq (x.sn==m)
theorem run(x a b c d e f g m o p q):ca X (dG f422) .d (cS [3]) [3] [] [eA .dj x,.pcs [.str a,.str b,.str c,.int .i64 d,.int .i64 e,.int .i64 f,.int .i64 g,.str m,.int .i64 o,.int .i64 p,.au .cP q] 0]=f0 x a b c d e f g m o p q:=aa
theorem aw(x:cK)(a b c:ah UInt8)(d e f g:Int)(m:ah UInt8)(o p:Int)(q:ah cH):f0 x a b c d e f g m o p q=aq (gx m x):=rfl
def g:ah (AV U El)->Option (AV U El)
 |[.agg [.str J7,.int .i64 J8,.int .i64 J6,.au .cP J_,.au .cP J9],.pcs [.str a,.str b,.str c,.int .i64 d,.int .i64 e,.int .i64 f,.int .i64 g,.str m,.int .i64 o,.int .i64 p,.au .cP q] 0]=>some (.bool ((gx m) (⟨J7,J8,J6,J_,J9⟩:cK)))
 |_=>none
def c:Ct:=⟨422,dU g,oS call422 func422 λvs v h=>by
 unfold g at h;split at h;cases h;exact(run ⟨_,_,_,_,_⟩ _ _ _ _ _ _ _ _ _ _ _).trans (aw ⟨_,_,_,_,_⟩ _ _ _ _ _ _ _ _ _ _ _);cases h⟩
end YZ
namespace Tt
def X:=dp [YZ.c] 19
def g:ah (AV U El)->Option (Bool×AV U El)
 |[.au .dj l,.fn 422 [] [.pcs [.str a,.str b,.str c,.int .i64 d,.int .i64 e,.int .i64 f,.int .i64 g,.str m,.int .i64 o,.int .i64 p,.au .cP q] 0]]=>some (bU l.length 90000,(.int .i64 (dM (gx m) 0 l)))
 |_=>none
def c:Ct:=⟨145,cj g,ir call145 func145 λvs v h e=>by
 unfold g at h;split at h;cases h;exact qt (X:=X) e aa (λ_ _ _=>aa) aa;cases h⟩
end Tt
namespace qO
variable(n:Net)(l:ah cK)(x:cJ)(up down:Int)
def X:=dp [Tt.c,HV.c,HS.c,nc.c,wV.c,BP.c,HC.c] 81
def f0(set:Int)(on:Bool):R:=ai (x.lk==(1:Int)) (aU (bU l.length 90000) (aU (dV (dM (gx x.lc) 0 l) l.length) (some ((.bP [(.int .i64 ((HS.P x (List.getD l (Int.toNat (dM (gx x.lc) 0 l)) oU) up down).1)),(.int .i64 ((HS.P x (List.getD l (Int.toNat (dM (gx x.lc) 0 l)) oU) up down).2))]),[])))) (ai (x.lk==(2:Int)) (some ((.bP [(.int .i64 ((nc.P ((wV.P x up down).1) ((wV.P x up down).2)).1)),(.int .i64 ((nc.P ((wV.P x up down).1) ((wV.P x up down).2)).2))]),[])) (ai (x.lk==(3:Int)) (some ((.bP [(.int .i64 ((nc.P ((BP.P x set up down).1) ((BP.P x set up down).2)).1)),(.int .i64 ((nc.P ((BP.P x set up down).1) ((BP.P x set up down).2)).2))]),[])) (ai (!on) (some ((.bP [.int .i64 (0:Int),.int .i64 (0:Int)]),[])) (aU (gm n) (aU (dV (dX n (cJ.lf x)) n.ct.length) (aU (bU (List.length (cJ.lv x)) 90000) (some ((.bP [(.int .i64 ((HC.P x set (bif bz (4194304:Int) (i64.wrap (up-(List.getD n.ct (Int.toNat (dX n (cJ.lf x))) fU).ni))then(4194304:Int)else(i64.wrap (up-(List.getD n.ct (Int.toNat (dX n (cJ.lf x))) fU).ni)))).1)),(.int .i64 ((HC.P x set (bif bz (4194304:Int) (i64.wrap (up-(List.getD n.ct (Int.toNat (dX n (cJ.lf x))) fU).ni))then(4194304:Int)else(i64.wrap (up-(List.getD n.ct (Int.toNat (dX n (cJ.lf x))) fU).ni)))).2))]),[]))))))))
theorem run(set)(on):ca X (dG f371) .d (cS [14,15]) [14,15] [] [eA .mP n,.au .dj l,eA .link x,.int .i64 up,.int .i64 down,.int .i64 set,.bool on]=f0 n l x up down set on:=aa
theorem bE(set:Int)(on:Bool)(h:Aw n l x=true):jF kX (f0 n l x up down set on):=by
 simp only[Aw,aj]at h;obtain⟨h1,h2,h3,h4,h5⟩:=h;refine .fy (λe=>.aU h4 (.aU ?_ (j3 _ _))) λ_=>.fy (λ_=>j3 _ _) λ_=>.fy (λ_=>j3 _ _) λ_=>.fy (λ_=>j3 _ _) λ_=>.aU h1 (.aU h2 (.aU h3 (j3 _ _)))
 have:x.lk=1:=by simpa using e
 simpa[this]using h5
def P(set:Int)(on:Bool):Int×Int:=Classical.epsilon λa=>f0 n l x up down set on=some (kX a)
theorem aw(set:Int)(on:Bool)(h:Aw n l x=true):f0 n l x up down set on=some (kX (P n l x up down set on)):=(bE n l x up down set on h).iJ
def c:Ct:=⟨371,cj (A7 (aR .mP) (bL .dj) (aR .link) aI aI aI aB λn l x up down set on=>(Aw n l x,(.bP [(.int .i64 ((qO.P n l x up down set on).1)),(.int .i64 ((qO.P n l x up down set on).2))]))),ir call371 func371 (a7 λn l x up down set on e_=>(run n l x up down set on).trans (aw n l x up down set on e_))⟩
end qO
namespace jd
variable(dA:ah Int)(eB:ah Node)(fB zA:Int)(n:Net)(v:ah Int)
def X:=dp [HR.c] 29
def bd:=dG f307
def RR:bn U El:=λst=>cN (cS [4]) st (ch [4] [])
def eE:Norm U:=cS []
def dI:Norm U:=cS [1,14,15,16]
def an:gb U:=(.seq none .d (.seq none .d (.seq (some eE) (.seq none .d (.block (.loop dI .d))) .d)))
abbrev Y1:=R
abbrev Y2:=(ah Int)->(ah Node)->Int->Int->R
def fY:St U El:=⟨[(1,.au .int dA),(14,.au .node eB),(15,.int .i64 fB),(16,.int .i64 zA)],[]⟩
def cX(k2:Y2):R:=ai ((Int.ofNat v.length) !=(Int.ofNat n.ct.length)) (gl (3:Int)) (k2 v n.ct (Int.ofNat n.ct.length) (0:Int))
def dR:R:=gl (0:Int)
def dQ(k1:Y1)(k2:Y2):R:=ai (bz zA fB) (aU (dV zA eB.length) (aU (dV zA dA.length) (ai (!((bg (Node.ni (eB.getD zA.toNat fU)) (dA.getD zA.toNat bF)&&bg (dA.getD zA.toNat bF) (Node.ng (eB.getD zA.toNat fU))))) (gl (2:Int)) (k2 dA eB fB (i64.wrap (zA+(1:Int))))))) (k1)
abbrev ex:=kf X bd an RR
abbrev it:=nO X bd an RR
def gu(gW:bn U El):=it dI [1,1,0,1,0,0] (cu 0 (bG eE gW) nE)
def cQ:=ex [1,1,1] RR nE
def f1:R:=dR
def f2:Nat->Y2
 |0=>λ_ _ _ _=>none
 |n+1=>λdA eB fB zA=>dQ dA eB fB zA f1 (f2 n)
def f0:R:=cX n v (f2 100000)
theorem E1:((hid cQ) ⟨[],[]⟩)=f1:=by refine cm ?_;unfold f1;exact aa
theorem T2:∀n,(λdA eB fB zA=>gu (hid cQ) n (fY dA eB fB zA))=f2 n:=by
 intro n;induction n with
 |zero=>rfl
 |succ n ih=>funext dA eB fB zA;rw[f2];rw[<-E1,<-ih];exact aa
theorem H2:(λdA eB fB zA=>hid (gu (hid cQ) 100000) (fY dA eB fB zA))=f2 100000:=by rw[cM];exact(T2 100000)
theorem run:ca X bd an (cS [4]) [4] [] [eA .mP n,.au .int v]=f0 n v:=by unfold f0;rw[<-H2];exact aa
theorem h_(l:ah Int)(ns:ah Node)(hn:ns.length<=90000)(hl:l.length=ns.length):∀(n i:Nat),ns.length<n+i->i<=ns.length->jF qI (f2 n l ns (Int.ofNat ns.length) (i:Int)):=by
 intro n;induction n with
 |zero=>intro i h1 h2;omega
 |succ n ih=>
  intro i h1 h2;show jF qI (dQ l ns (Int.ofNat ns.length) (i:Int) f1 (f2 n))
  unfold dQ;by_cases hi:i<ns.length
  ·rw[eh (by simp;omega),c9 hi,c9 (show i<l.length by omega),eY i ab]
   simp only[eZ,ee]
   exact .fy (λ_=>K7 _) λ_=>ih _ ab hi
  ·have:i=ns.length:=ab
   subst this;rw[dF ae]
   exact K7 _
theorem bE(h:bU (List.length (Net.ct n)) 90000=true):kt qI (λe=>e=0->v.length=n.ct.length) (f0 n v):=by
 have h:=ia h;show kt qI _ (cX n v (f2 100000))
 unfold cX;by_cases hl:v.length=n.ct.length
 ·obtain⟨p,h1,a,h2⟩:=h_ v n.ct h hl 100000 0 ab ab
  rw[show(Int.ofNat v.length !=Int.ofNat n.ct.length)=false by rw[hl];simp]
  exact⟨p,h1,a,h2,λ_=>hl⟩
 ·rw[show(Int.ofNat v.length !=Int.ofNat n.ct.length)=true from bne_iff_ne.2 λe=>hl (hO e)]
  exact kt.mk (q:=qI) 3 λe=>absurd e af
def P:Int:=Classical.epsilon λa=>f0 n v=some (qI a)/\(a=0->v.length=n.ct.length)
theorem wy{n:Net}{v:ah Int}(h:bU (List.length (Net.ct n)) 90000=true):P n v=0->v.length=n.ct.length:=(bE n v h).iJ.2
theorem aw(h:bU (List.length (Net.ct n)) 90000=true):f0 n v=gl (P n v):=(bE n v h).iJ.1
def c:Ct:=⟨307,cj (A2 (aR .mP) (bL .int) λn v=>((bU (List.length (Net.ct n)) 90000),.int .i64 (jd.P n v))),ir call307 func307 (a2 λn v e_=>(run n v).trans (aw n v e_))⟩
end jd
namespace N1
variable(n:Net)(l:ah cK)(x:cJ)(v:ah Int)
def X:=dp [HV.c,qO.c] 38
def f0(set:Int)(on:Bool):R:=aU (gm n) (aU (dV (dX n (cJ.lf x)) v.length) (aU (dV (dX n (cJ.lt x)) v.length) (aU (Aw n l x) (some ((.bP [(.int .i64 ((qO.P n l x (List.getD v (Int.toNat (dX n (cJ.lf x))) bF) (List.getD v (Int.toNat (dX n (cJ.lt x))) bF) set on).1)),(.int .i64 ((qO.P n l x (List.getD v (Int.toNat (dX n (cJ.lf x))) bF) (List.getD v (Int.toNat (dX n (cJ.lt x))) bF) set on).2))]),[])))))
theorem run(set)(on):ca X (dG f312) .d (cS [12,13]) [12,13] [] [eA .mP n,.au .dj l,eA .link x,.au .int v,.int .i64 set,.bool on]=f0 n l x v set on:=aa
theorem bE(set:Int)(on:Bool)(h:BT n l x v=true):jF kX (f0 n l x v set on):=by simp only[BT,aj]at h;have h1:=h.1;simp only[Aw,aj]at h1;exact .aU h1.1 (.aU h.2.1 (.aU h.2.2 (.aU h.1 (j3 _ _))))
def P(set:Int)(on:Bool):Int×Int:=Classical.epsilon λa=>f0 n l x v set on=some (kX a)
theorem aw(set:Int)(on:Bool)(h:BT n l x v=true):f0 n l x v set on=some (kX (P n l x v set on)):=(bE n l x v set on h).iJ
def c:Ct:=⟨312,cj (A6 (aR .mP) (bL .dj) (aR .link) (bL .int) aI aB λn l x v set on=>(BT n l x v,(.bP [(.int .i64 ((N1.P n l x v set on).1)),(.int .i64 ((N1.P n l x v set on).2))]))),ir call312 func312 (a6 λn l x v set on e_=>(run n l x v set on).trans (aw n l x v set on e_))⟩
end N1
namespace YW
variable(x:cJ)(l2:ah cK)
def X:=dp [Lj.c] 8
def f0:R:=aU (bU l2.length 90000) (aq (!(uO l2 x)))
theorem run:ca X (dG f310) .d (cS [3]) [3] [] [eA .link x,.pcs [.au .dj l2] 0]=f0 x l2:=aa
theorem aw(l:ah cK)(h:th l x=true):f0 x l=aq (unknown l x):=by unfold f0;rw[show bU l.length 90000=true from h];rfl
def g:ah (AV U El)->Option (Bool×AV U El)
 |[.agg [.str M_,.str Nc,.str M9,.int .i64 Na,.int .i64 M',.int .i64 M8,.int .i64 Nd,.str Nf,.int .i64 M6,.int .i64 Nb,.au .cP M7],.pcs [.au .dj l2] 0]=>some (((th l2) (⟨M_,Nc,M9,Na,M',M8,Nd,Nf,M6,Nb,M7⟩:cJ)),(.bool ((unknown l2) (⟨M_,Nc,M9,Na,M',M8,Nd,Nf,M6,Nb,M7⟩:cJ))))
 |_=>none
def c:Ct:=⟨310,cj g,ir call310 func310 λvs v h e=>by
 unfold g at h;split at h;cases h;exact(run ⟨_,_,_,_,_,_,_,_,_,_,_⟩ _).trans (aw ⟨_,_,_,_,_,_,_,_,_,_,_⟩ _ e);cases h⟩
end YW
namespace Tp
def X:=dp [YW.c] 19
def g:ah (AV U El)->Option (Bool×AV U El)
 |[.au .link l,.fn 310 [] [.pcs [.au .dj l2] 0]]=>some (bU l.length 90000&&List.all l (th l2),(.int .i64 (dM (unknown l2) 0 l)))
 |_=>none
def c:Ct:=⟨144,cj g,ir call144 func144 λvs v h e=>by
 unfold g at h;split at h;cases h;exact KC (X:=X) e aa (λ_ _ _=>aa) aa;cases h⟩
end Tp
namespace Tq
def X:=dp [Tp.c] 9
def g:ah (AV U El)->Option (Bool×AV U El)
 |[.au .link l,.fn 310 [] [.pcs [.au .dj l2] 0]]=>some (bU l.length 90000&&List.all l (th l2),(.bool (List.any l (unknown l2))))
 |_=>none
def c:Ct:=⟨73,cj g,ir call73 func73 λvs v h e=>by
 unfold g at h;split at h;cases h;exact cont (X:=X) e aa;cases h⟩
end Tq
theorem tM{n:Net}(h:eR n=true){x:cJ}(hx:x∈n.cD):rU x=true/\dV (dX n x.lf) n.ct.length=true/\dV (dX n x.lt) n.ct.length=true/\(List.getD n.ct (Int.toNat (dX n x.lf)) fU).nk≠3:=by
 simp only[eR,aj]at h;obtain⟨i,hi,rfl⟩:=iv hx;have h1:=wx.1 h.2.2.2 i _ (az hi)
 simp only[lP,cF,hY]at h1;refine⟨Bi h1.1,tK (oD h1.2.2.1),tK (oD h1.2.2.2.1),?_⟩
 simpa using h1.2.2.2.2
theorem DX{n:Net}(h:gm n=true){x:cJ}(hx:x∈n.cD):bU x.lv.length 90000=true:=by simp only[gm,aj,aP]at h;exact h.2.2 x hx
theorem Qr{i:Int}{a b:Nat}(h:dV i a=true)(e:b=a):dV i b=true:=by rw[e];exact h
def Full{α:Type}(n:Net)(p:ah α×Int):Prop:=(p.2=0->p.1.length=n.cD.length)/\(p.2≠0->p.1=[])
theorem Vm{n:Net}(u:U)(o:ah (El u))(h:o.length=n.cD.length):kt (AJ u) (Full n) (some (.bP [.cf 0,.int .i64 0],[(0,.rows u o)])):=kt.mk (q:=AJ u) (o,0) ⟨λ_=>h,λh=>absurd rfl h⟩
theorem NP{n:Net}(u:U){e:Int}(h:e≠0):kt (AJ u) (Full n) (some (.bP [.cf 0,.int .i64 e],[(0,.rows u ([]:ah (El u)))])):=kt.mk (q:=AJ u) ([],e) ⟨λh0=>absurd h0 h,λ_=>rfl⟩
namespace kq
variable(n:Net)(l:ah cK)(v:ah Int)(s:cO)(aA:ah Int)(cA:ah Node)(fA:ah Int)
def X:=dp [xi.c,wM.c,Tq.c,jd.c,N1.c] 70
def bd:=dG f237
def fM:Norm U:=⟨[(8,.int)],[8,9],[8],[],[],[],[]⟩
def RR:bn U El:=λst=>cN fM st (ch [8,9] [8])
def dI:Norm U:=⟨[(11,.int)],[11],[11],[],[],[],[]⟩
def jY:Norm U:=⟨[(11,.int)],[2,4,5,7,11,36,37,38],[11,4,5,7],[],[],[],[(4,0,.node),(4,1,.link),(5,0,.dj),(7,0,.int),(7,1,.int),(7,2,.int),(7,3,.bool)]⟩
def an:gb U:=(.seq none .d (.seq (some (⟨[],[2,4,5,7],[4,5,7],[],[],[],[(4,0,.node),(4,1,.link),(5,0,.dj),(7,0,.int),(7,1,.int),(7,2,.int),(7,3,.bool)]⟩)) .d (.seq none .d (.seq none .d (.seq none .d (.seq (some dI) (.seq none .d (.block (.loop jY .d))) .d))))))
abbrev Y1:=(ah Int)->(ah Node)->(ah cJ)->(ah cK)->(ah Int)->(ah Int)->(ah Int)->(ah Bool)->R
abbrev Y2:=(ah Int)->R
abbrev Y3:=(ah Int)->(ah Int)->(ah cJ)->Int->Int->(ah Node)->(ah cJ)->(ah cK)->(ah Int)->(ah Int)->(ah Int)->(ah Bool)->R
def nz(bB:ah cJ)(hB uA:Int)(cA:ah Node)(bA:ah cJ)(kA:ah cK)(rA sA mA:ah Int)(nA:ah Bool):St U El:=⟨[(2,.au .int aA),(4,.ptr 4 0),(5,.ptr 5 0),(7,.ptr 7 0),(11,.cf 11),(36,.au .link bB),(37,.int .i64 hB),(38,.int .i64 uA)],[(11,.rows .int fA),(4,.box 0 [.au .node cA,.au .link bA]),(5,.box 0 [.au .dj kA]),(7,.box 0 [.au .int rA,.au .int sA,.au .int mA,.au .bool nA])]⟩
def cX(k1:Y1):R:=ai (!(qG l)) (some ((.bP [.cf 0,.int .i64 (1:Int)]),[(0,.rows .int ([]:ah Int))])) (aU (gm n) (ai (!(eR n&&fO n s)) (some ((.bP [.cf 0,.int .i64 (1:Int)]),[(0,.rows .int ([]:ah Int))])) (k1 v n.ct n.cD l s.fH s.gw s.dH s.ik)))
def dR(bA:ah cJ)(kA:ah cK)(rA sA mA:ah Int)(nA:ah Bool)(k3:Y3):R:=aU (bU (List.length (Net.ct (⟨cA,bA⟩:Net))) 90000) (ai (((jd.P (⟨cA,bA⟩:Net) aA)) !=(0:Int)) (some ((.bP [.cf 0,(.int .i64 ((jd.P (⟨cA,bA⟩:Net) aA)))]),[(0,.rows .int ([]:ah Int))])) (aU (bU bA.length 90000&&List.all bA (th kA)) (ai (List.any bA (unknown kA)) (some ((.bP [.cf 0,.int .i64 (9:Int)]),[(0,.rows .int ([]:ah Int))])) (k3 aA ([]:ah Int) bA (Int.ofNat bA.length) (0:Int) cA bA kA rA sA mA nA))))
def dQ:R:=some ((.bP [.cf 0,.int .i64 (0:Int)]),[(0,.rows .int fA)])
def gf(bB:ah cJ)(hB uA:Int)(cA:ah Node)(bA:ah cJ)(kA:ah cK)(rA sA mA:ah Int)(nA:ah Bool)(k2:Y2)(k3:Y3):R:=ai (bz uA hB) (aU (dV uA bB.length) (aU (dV uA mA.length) (aU (dV uA nA.length) (aU (BT (⟨cA,bA⟩:Net) kA (bB.getD uA.toNat dz) aA) (ai (((N1.P (⟨cA,bA⟩:Net) kA (bB.getD uA.toNat dz) aA (mA.getD uA.toNat bF) (nA.getD uA.toNat jz)).2) !=(0:Int)) (some ((.bP [.cf 0,(.int .i64 ((N1.P (⟨cA,bA⟩:Net) kA (bB.getD uA.toNat dz) aA (mA.getD uA.toNat bF) (nA.getD uA.toNat jz)).2))]),[(0,.rows .int ([]:ah Int))])) (aU (bU ((List.length fA+List.length ([((N1.P (⟨cA,bA⟩:Net) kA (bB.getD uA.toNat dz) aA (mA.getD uA.toNat bF) (nA.getD uA.toNat jz)).1)]:ah Int))*8) 140737488355328&&bU (List.length fA+List.length ([((N1.P (⟨cA,bA⟩:Net) kA (bB.getD uA.toNat dz) aA (mA.getD uA.toNat bF) (nA.getD uA.toNat jz)).1)]:ah Int)) 9223372036854775807) (k3 aA (fA++([((N1.P (⟨cA,bA⟩:Net) kA (bB.getD uA.toNat dz) aA (mA.getD uA.toNat bF) (nA.getD uA.toNat jz)).1)]:ah Int)) bB hB (i64.wrap (uA+(1:Int))) cA bA kA rA sA mA nA))))))) (k2 fA)
abbrev ex:=kf X bd an RR
abbrev it:=nO X bd an RR
def nU(iP:bn U El):=it jY [1,1,1,1,1,0,1,0,0] (cu 0 (bG dI iP) nE)
def cQ:=ex [1,1] RR nE
def ib:=ex [1,1,1,1,1,1] RR nE
def f2:R:=dQ fA
def f3:Nat->Y3
 |0=>λ_ _ _ _ _ _ _ _ _ _ _ _=>none
 |n+1=>λaA fA bB hB uA cA bA kA rA sA mA nA=>gf aA fA bB hB uA cA bA kA rA sA mA nA f2 (f3 n)
def f1(bA:ah cJ)(kA:ah cK)(rA sA mA:ah Int)(nA:ah Bool):R:=dR aA cA bA kA rA sA mA nA (f3 100000)
def f0:R:=cX n l v s f1
theorem E2:(λfA=>(hid ib) ⟨[(11,.cf 11)],[(11,.rows .int fA)]⟩)=f2:=by funext fA;refine cm ?_;unfold f2;exact aa
theorem T3:∀n,(λaA fA bB hB uA cA bA kA rA sA mA nA=>nU (hid ib) n (nz aA fA bB hB uA cA bA kA rA sA mA nA))=f3 n:=by
 intro n;induction n with
 |zero=>rfl
 |succ n ih=>funext aA fA bB hB uA cA bA kA rA sA mA nA;rw[f3];rw[<-E2,<-ih];exact aa
theorem H3:(λaA fA bB hB uA cA bA kA rA sA mA nA=>hid (nU (hid ib) 100000) (nz aA fA bB hB uA cA bA kA rA sA mA nA))=f3 100000:=by rw[cM];exact(T3 100000)
theorem E1:(λaA cA bA kA rA sA mA nA=>(hid cQ) ⟨[(2,.au .int aA),(4,.ptr 4 0),(5,.ptr 5 0),(7,.ptr 7 0)],[(4,.box 0 [.au .node cA,.au .link bA]),(5,.box 0 [.au .dj kA]),(7,.box 0 [.au .int rA,.au .int sA,.au .int mA,.au .bool nA])]⟩)=f1:=by funext aA cA bA kA rA sA mA nA;refine cm ?_;unfold f1;rw[<-H3];exact aa
theorem run:ca X bd an fM [8,9] [8] [eA .mP n,.au .dj l,.au .int v,eA .state s]=f0 n l v s:=by unfold f0;rw[<-E1];exact aa
theorem sZ(a b c:ah Int)(d:ah Bool)(hk:n.cD.length<=400)(hc:c.length=n.cD.length)(hd:d.length=n.cD.length)(ha:∀x∈n.cD,BT n l x v=true):∀(m i:Nat) (out:ah Int),n.cD.length<m+i->i<=n.cD.length->out.length=i->
 kt (AJ .int) (Full n) (f3 m v out n.cD (Int.ofNat n.cD.length) (i:Int) n.ct n.cD l a b c d):=by
 intro m;induction m with
 |zero=>intro i out h1 h2;omega
 |succ m ih=>
  intro i out h1 h2 h3;show kt (AJ .int) (Full n) (gf v out n.cD (Int.ofNat n.cD.length) (i:Int) n.ct n.cD l a b c d f2 (f3 m))
  unfold gf;by_cases hi:i<n.cD.length
  ·rw[eh (by simp;omega),c9 hi,c9 (show i<c.length by omega),c9 (show i<d.length by omega),eY i ab,toNat_nat,bQ hi]
   simp only[eZ,ee]
   refine .aU (ha _ (bW hi)) (.fy (λhe=>NP .int (by simpa using he)) λ_=>.aU (xq ab) (ih _ _ ab hi (by simp[h3])))
  ·have:i=n.cD.length:=ab
   subst this;rw[dF ae]
   exact Vm .int out h3
theorem bE(h:(gm n&&bU l.length 90000)=true):kt (AJ .int) (Full n) (f0 n l v s):=by
 obtain⟨h1,h2⟩:=aZ.1 h;have e1:∀e:Int,e≠0->kt (AJ .int) (Full n) (some (.bP [.cf 0,.int .i64 e],[(0,.rows .int ([]:ah Int))])):=λe he=>NP .int he
 show kt (AJ .int) (Full n) (cX n l v s f1)
 refine .fy (λ_=>e1 _ af) λhc=>.aU h1 (.fy (λ_=>e1 _ af) λhs=>?_)
 obtain⟨hb,mq⟩:=aZ.1 (Bi hs)
 obtain⟨s1,s2,s3,s4⟩:=km mq;obtain⟨n1,n2⟩:=kF hb;show kt (AJ .int) (Full n) (dR v n.ct n.cD l s.fH s.gw s.dH s.ik (f3 100000))
 refine .aU (o0 h1) (.fy (λhe=>e1 _ (by simpa using he)) λhe=>.aU (eN (c_ ab) (aP.2 λ_ _=>h2)) (.fy (λ_=>e1 _ af) λhu=>?_))
 have hv:=jd.wy (o0 h1) (show jd.P n v=0 by simpa using he)
 refine sZ n l v s.fH s.gw s.dH s.ik n2 s3 s4 (λx hx=>?_) 100000 0 [] ab ab rfl;obtain⟨_,k2,k3,_⟩:=tM hb hx;have hkn:uO l x=true:=by
  have:=gC.1 hu x hx;simpa[unknown]using this
 refine eN (eN h1 (eN k2 (eN (DX h1 hx) (eN h2 ?_)))) (eN (Qr k2 hv) (Qr k3 hv))
 unfold uO at hkn;cases e:x.lk !=1 with
 |true=>rfl
 |false=>
  rw[e,fe,<-xf (gx x.lc) l 0]at hkn;rcases qh (gx x.lc) l 0 with h3|⟨h3,h4⟩
  ·rw[h3]at hkn;cases hkn
  ·exact eN hkn (eh (by simpa using h4))
def P:ah Int×Int:=Classical.epsilon λa=>f0 n l v s=some (AJ .int a)/\Full n a
theorem wy{n:Net}{l:ah cK}{v:ah Int}{s:cO}(h:(gm n&&bU l.length 90000)=true):Full n (P n l v s):=(bE n l v s h).iJ.2
theorem aw(h:(gm n&&bU l.length 90000)=true):f0 n l v s=some (AJ .int (P n l v s)):=(bE n l v s h).iJ.1
def c:Ct:=⟨237,ko (A4 (aR .mP) (bL .dj) (bL .int) (aR .state) λn l v s=>(gm n&&bU l.length 90000,((.bP [.cf 0,(.int .i64 ((kq.P n l v s).2))]),[(0,.rows .int ((kq.P n l v s).1))]))),zw call237 func237 (a4 λn l v s e_=>⟨(run n l v s).trans (aw n l v s e_),rfl⟩)⟩
end kq
namespace vR
variable(aA:ah Int)(hA:ah Bool)(tA:ah cJ)(xA pA:Int)(iA:ah Node)(jA:ah cJ)(cA:ah Int)(n:Net)(gW:bn U El)(s:cO)(v:ah Int)
def X:=dp [wM.c,jd.c,HV.c,SV.c] 66
def bd:=dG f236
def fM:Norm U:=⟨[(6,.bool)],[6,7],[6],[],[],[],[]⟩
def RR:bn U El:=λst=>cN fM st (ch [6,7] [6])
def eE:Norm U:=⟨[(9,.bool)],[9],[9],[],[],[],[]⟩
def dI:Norm U:=⟨[(9,.bool)],[2,3,4,9,27,28,29],[9,3,4],[],[],[],[(3,0,.node),(3,1,.link),(4,0,.int),(4,1,.int),(4,2,.int),(4,3,.bool)]⟩
def an:gb U:=(.seq none .d (.seq none .d (.seq none .d (.seq none .d (.seq (some eE) (.seq none .d (.block (.loop dI (.seq none .d (.seq none .d (.seq none (.block (.seq none .d (.seq none .d (.seq (some (⟨[(9,.bool)],[2,3,4,9,12,27,28,29],[9,3,4],[],[],[],[(3,0,.node),(3,1,.link),(4,0,.int),(4,1,.int),(4,2,.int),(4,3,.bool)]⟩)) .d .d)))) .d)))))) .d)))))
abbrev Y1:=(ah Bool)->R
abbrev Y2:=(ah Int)->(ah Bool)->(ah cJ)->Int->Int->(ah Node)->(ah cJ)->(ah Int)->(ah Int)->(ah Int)->(ah Bool)->R
abbrev Y3:=(ah Int)->(ah Bool)->Bool->(ah cJ)->Int->Int->(ah Node)->(ah cJ)->(ah Int)->(ah Int)->(ah Int)->(ah Bool)->R
def fY(bA qA:ah Int)(lA:ah Bool):St U El:=⟨[(2,.au .int aA),(3,.ptr 3 0),(4,.ptr 4 0),(9,.cf 9),(27,.au .link tA),(28,.int .i64 xA),(29,.int .i64 pA)],[(9,.rows .bool hA),(3,.box 0 [.au .node iA,.au .link jA]),(4,.box 0 [.au .int cA,.au .int bA,.au .int qA,.au .bool lA])]⟩
def cX(k2:Y2):R:=aU (gm n) (ai (!(eR n&&fO n s)) (some ((.bP [.cf 0,.int .i64 (1:Int)]),[(0,.rows .bool ([]:ah Bool))])) (aU (bU (List.length (Net.ct n)) 90000) (ai ((jd.P n v) !=(0:Int)) (some ((.bP [.cf 0,.int .i64 (jd.P n v)]),[(0,.rows .bool ([]:ah Bool))])) (k2 v ([]:ah Bool) n.cD (Int.ofNat n.cD.length) (0:Int) n.ct n.cD s.fH s.gw s.dH s.ik))))
def dR:R:=some ((.bP [.cf 0,.int .i64 (0:Int)]),[(0,.rows .bool hA)])
def dQ(bA qA:ah Int)(lA:ah Bool)(k1:Y1)(k3:Y3):R:=ai (bz pA xA) (aU (dV pA tA.length) (ai ((tA.getD pA.toNat dz).lk==(4:Int)) (aU (gm (⟨iA,jA⟩:Net)) (aU (dV pA lA.length) (aU (dV (dX (⟨iA,jA⟩:Net) (cJ.lf (tA.getD pA.toNat dz))) aA.length) (aU (bU (List.length (cJ.lv (tA.getD pA.toNat dz))) 90000) (ai (((SV.P (tA.getD pA.toNat dz) (lA.getD pA.toNat jz) (List.getD aA (Int.toNat (dX (⟨iA,jA⟩:Net) (cJ.lf (tA.getD pA.toNat dz)))) bF)).2) !=(0:Int)) (some ((.bP [.cf 0,(.int .i64 ((SV.P (tA.getD pA.toNat dz) (lA.getD pA.toNat jz) (List.getD aA (Int.toNat (dX (⟨iA,jA⟩:Net) (cJ.lf (tA.getD pA.toNat dz)))) bF)).2))]),[(0,.rows .bool ([]:ah Bool))])) (k3 aA hA ((SV.P (tA.getD pA.toNat dz) (lA.getD pA.toNat jz) (List.getD aA (Int.toNat (dX (⟨iA,jA⟩:Net) (cJ.lf (tA.getD pA.toNat dz)))) bF)).1) tA xA pA iA jA cA bA qA lA)))))) (k3 aA hA false tA xA pA iA jA cA bA qA lA))) (k1 hA)
def gf(yA:Bool)(tA:ah cJ)(xA pA:Int)(iA:ah Node)(jA:ah cJ)(cA bA qA:ah Int)(lA:ah Bool)(k2:Y2):R:=aU (bU ((List.length hA+List.length ([yA]:ah Bool))*1) 140737488355328&&bU (List.length hA+List.length ([yA]:ah Bool)) 9223372036854775807) (k2 aA (hA++([yA]:ah Bool)) tA xA (i64.wrap (pA+(1:Int))) iA jA cA bA qA lA)
abbrev ex:=kf X bd an RR
abbrev it:=nO X bd an RR
def gu:=it dI [1,1,1,1,0,1,0,0] (cu 0 (bG eE gW) nE)
def cQ:=ex [1,1,1,1,1] RR nE
def mz(iP:bn U El):=ex [1,1,1,1,0,1,0,0,1,1,0,0,1,1,1] (λbx=>exec X (oM [1,1,1,1,0,1,0,0,1,1,1] bd) .d bx (bG dI iP) (cu 0 (bG eE gW) (λ_ _=>none)) RR) (cu 1 (λbx=>exec X (oM [1,1,1,1,0,1,0,0,1,1,1] bd) .d bx (bG dI iP) (cu 0 (bG eE gW) nE) RR) (cu 0 (bG eE gW) nE))
def f1:R:=dR hA
def f3(k2:Y2)(aA:ah Int)(hA:ah Bool)(yA:Bool)(tA:ah cJ)(xA pA:Int)(iA:ah Node)(jA:ah cJ)(cA bA qA:ah Int)(lA:ah Bool):R:=gf aA hA yA tA xA pA iA jA cA bA qA lA k2
def f2:Nat->Y2
 |0=>λ_ _ _ _ _ _ _ _ _ _ _=>none
 |n+1=>λaA hA tA xA pA iA jA cA bA qA lA=>dQ aA hA tA xA pA iA jA cA bA qA lA f1 (f3 (f2 n))
def f0:R:=cX n s v (f2 100000)
theorem E1:(λhA=>(hid cQ) ⟨[(9,.cf 9)],[(9,.rows .bool hA)]⟩)=f1:=by funext hA;refine cm ?_;unfold f1;exact aa
theorem E3(jW:bn U El)(k2:Y2)(h2:(λaA hA tA xA pA iA jA cA bA qA lA=>jW (fY aA hA tA xA pA iA jA cA bA qA lA))=k2):(λaA hA yA tA xA pA iA jA cA bA qA lA=>(hid (mz (hid cQ) jW)) ⟨[(2,.au .int aA),(3,.ptr 3 0),(4,.ptr 4 0),(9,.cf 9),(12,.bool yA),(27,.au .link tA),(28,.int .i64 xA),(29,.int .i64 pA)],[(9,.rows .bool hA),(3,.box 0 [.au .node iA,.au .link jA]),(4,.box 0 [.au .int cA,.au .int bA,.au .int qA,.au .bool lA])]⟩)=f3 k2:=by subst h2;funext aA hA yA tA xA pA iA jA cA bA qA lA;refine cm ?_;unfold f3;exact aa
theorem T2:∀n,(λaA hA tA xA pA iA jA cA bA qA lA=>gu (hid cQ) n (fY aA hA tA xA pA iA jA cA bA qA lA))=f2 n:=by
 intro n;induction n with
 |zero=>rfl
 |succ n ih=>funext aA hA tA xA pA iA jA cA bA qA lA;rw[f2];rw[<-E1,<-E3 (gu (hid cQ) n) _ ih];exact aa
theorem H2:(λaA hA tA xA pA iA jA cA bA qA lA=>hid (gu (hid cQ) 100000) (fY aA hA tA xA pA iA jA cA bA qA lA))=f2 100000:=by rw[cM];exact(T2 100000)
theorem run:ca X bd an fM [6,7] [6] [eA .mP n,eA .state s,.au .int v]=f0 n s v:=by unfold f0;rw[<-H2];exact aa
theorem h_(a b c:ah Int)(d:ah Bool)(h1:gm n=true)(hk:n.cD.length<=400)(hd:d.length=n.cD.length)(ha:∀x∈n.cD,dV (dX n x.lf) v.length=true): ∀(m i:Nat) (out:ah Bool),n.cD.length<m+i->i<=n.cD.length->out.length=i->
 kt (AJ .bool) (Full n) (f2 m v out n.cD (Int.ofNat n.cD.length) (i:Int) n.ct n.cD a b c d):=by
 intro m;induction m with
 |zero=>intro i out h1 h2;omega
 |succ m ih=>
  intro i out q1 q2 q3;show kt (AJ .bool) (Full n) (dQ v out n.cD (Int.ofNat n.cD.length) (i:Int) n.ct n.cD a b c d f1 (f3 (f2 m)))
  unfold dQ;by_cases hi:i<n.cD.length
  ·have e3: ∀o,kt (AJ .bool) (Full n) (f3 (f2 m) v out o n.cD (Int.ofNat n.cD.length) (i:Int) n.ct n.cD a b c d):=λo=>by
    show kt (AJ .bool) (Full n) (gf v out o n.cD (Int.ofNat n.cD.length) (i:Int) n.ct n.cD a b c d (f2 m))
    unfold gf;rw[eY i ab]
    exact .aU (xq ab) (ih _ _ ab hi (by simp[q3]))
   rw[eh (by simp;omega),c9 hi,c9 (show i<d.length by omega),toNat_nat,bQ hi]
   simp only[eZ,ee]
   have hx:=bW hi;refine .fy (λ_=>.aU h1 (.aU (ha _ hx) (.aU (DX h1 hx) (.fy (λhe=>NP .bool (by simpa using he)) λ_=>e3 _)))) λ_=>e3 _
  ·have:i=n.cD.length:=ab
   subst this;rw[dF ae]
   exact Vm .bool out q3
theorem bE(h:gm n=true):kt (AJ .bool) (Full n) (f0 n s v):=by
 have e1:∀e:Int,e≠0->kt (AJ .bool) (Full n) (some (.bP [.cf 0,.int .i64 e],[(0,.rows .bool ([]:ah Bool))])):=λe he=>NP .bool he
 show kt (AJ .bool) (Full n) (cX n s v (f2 100000))
 refine .aU h (.fy (λ_=>e1 _ af) λhs=>.aU (o0 h) (.fy (λhe=>e1 _ (by simpa using he)) λhe=>?_))
 obtain⟨hb,mq⟩:=aZ.1 (Bi hs)
 obtain⟨s1,s2,s3,s4⟩:=km mq;obtain⟨n1,n2⟩:=kF hb;have hv:=jd.wy (o0 h) (show jd.P n v=0 by simpa using he)
 exact h_ n v s.fH s.gw s.dH s.ik h n2 s4 (λx hx=>Qr (tM hb hx).2.1 hv) 100000 0 [] ab ab rfl
def P:ah Bool×Int:=Classical.epsilon λa=>f0 n s v=some (AJ .bool a)/\Full n a
theorem wy{n:Net}{s:cO}{v:ah Int}(h:gm n=true):Full n (P n s v):=(bE n s v h).iJ.2
theorem aw(h:gm n=true):f0 n s v=some (AJ .bool (P n s v)):=(bE n s v h).iJ.1
def c:Ct:=⟨236,ko (A3 (aR .mP) (aR .state) (bL .int) λn s v=>(gm n,((.bP [.cf 0,(.int .i64 ((vR.P n s v).2))]),[(0,.rows .bool ((vR.P n s v).1))]))),zw call236 func236 (a3 λn s v e_=>⟨(run n s v).trans (aw n s v e_),rfl⟩)⟩
end vR
namespace ly
variable(vA oA:Int)
def X:=dp [] 24
def bd:=dG f238
def RR:bn U El:=λst=>cN (cS [4,5]) st (ch [4,5] [])
def an:gb U:=(.seq none .d (.seq (some (cS [0,1])) .d .d))
abbrev Y1:=Int->Int->R
def cX(q t:Int)(k1:Y1):R:=ai (bz q (0:Int)) (some ((.bP [.int .i64 (0:Int),.int .i64 (2:Int)]),[])) (ai (bz (1099511627776:Int) q) (some ((.bP [.int .i64 (0:Int),.int .i64 (2:Int)]),[])) (ai (bz t (1:Int)) (some ((.bP [.int .i64 (0:Int),.int .i64 (2:Int)]),[])) (ai (bz (86400:Int) t) (some ((.bP [.int .i64 (0:Int),.int .i64 (2:Int)]),[])) (k1 q t))))
def dR:R:=some ((.bP [(.int .i64 (bif bz (1125899906842624:Int) (i64.wrap (vA*oA))then(1125899906842624:Int)else(i64.wrap (vA*oA)))),.int .i64 (0:Int)]),[])
abbrev ex:=kf X bd an RR
def cQ:=ex [1,1] RR nE
def f1:R:=dR vA oA
def f0(q t:Int):R:=cX q t f1
theorem E1:(λvA oA=>(hid cQ) ⟨[(0,.int .i64 vA),(1,.int .i64 oA)],[]⟩)=f1:=by funext vA oA;refine cm ?_;unfold f1;exact aa
theorem run(q t):ca X bd an (cS [4,5]) [4,5] [] [.int .i64 q,.int .i64 t]=f0 q t:=by unfold f0;rw[<-E1];exact aa
def G(p:Int×Int):Prop:=p.2=0->0<=p.1/\p.1<=1125899906842624
theorem bE(q t:Int):kt kX G (f0 q t):=by
 have e1:∀a b:Int,b≠0->kt kX G (some (.bP [.int .i64 a,.int .i64 b],[])):=λa b h=>kt.mk (q:=kX) (a,b) λh0=>absurd h0 h
 show kt kX G (cX q t f1)
 refine .fy (λ_=>e1 _ _ af) λa=>.fy (λ_=>e1 _ _ af) λb=>.fy (λ_=>e1 _ _ af) λc=>.fy (λ_=>e1 _ _ af) λd=>?_
 have a:=oD a;have b:=oD b;have c:=oD c;have d:=oD d;have h0:0<=q*t:=Int.mul_nonneg ab ab
 have h1:q*t<=1099511627776*86400:=Int.mul_le_mul ab ab ab ab
 refine kt.mk (q:=kX) (_,0) λ_=>?_
 show 0<=(bif bz 1125899906842624 (i64.wrap (q*t))then(1125899906842624:Int)else i64.wrap (q*t))/\_;rw[jD ab ab]
 cases e:bz 1125899906842624 (q*t)with
 |true=>exact⟨by show(0:Int)<=1125899906842624;decide,by show(1125899906842624:Int)<=_;decide⟩
 |false=>exact⟨h0,by have:=oD e;show q*t<=_;omega⟩
def P(q t:Int):Int×Int:=Classical.epsilon λa=>f0 q t=some (kX a)/\G a
theorem OS(q t:Int):G (P q t):=(bE q t).iJ.2
theorem aw(q t:Int):f0 q t=some (kX (P q t)):=(bE q t).iJ.1
def c:Ct:=⟨238,dU (A2 aI aI λq t=>(.bP [(.int .i64 ((ly.P q t).1)),(.int .i64 ((ly.P q t).2))])),oS call238 func238 (a2 λq t=>(run q t).trans (aw q t))⟩
end ly
def qR(u:U)(l:ah (El u)):Fin U El:=(.cf 0,[(0,.rows u l)])
def zu(n:Net)(x:cJ):j9:=⟨dX n x.lf,dX n x.lt⟩
def g_(n:Net):ah j9:=n.cD.map (zu n)
namespace La
variable(iA:ah j9)(x7:ah cJ)(x8 x9:Int)(mA:ah Node)(nA:ah cJ)(n:Net)
def X:=dp [K_.c] 27
def bd:=dG f313
def fM:Norm U:=⟨[(2,.pair)],[2],[2],[],[],[],[]⟩
def RR:bn U El:=λst=>cN fM st (ch [2] [2])
def eE:Norm U:=⟨[(3,.pair)],[3],[3],[],[],[],[]⟩
def dI:Norm U:=⟨[(3,.pair)],[1,3,7,8,9],[3,1],[],[],[],[(1,0,.node),(1,1,.link)]⟩
def an:gb U:=(.seq none .d (.seq none .d (.seq (some eE) (.seq none .d (.block (.loop dI (.seq none .d (.seq none .d (.seq none (.block (.seq none .d (.region [(11,3)]))) .d)))))) .d)))
abbrev Y1:=(ah j9)->R
abbrev Y2:=(ah j9)->(ah cJ)->Int->Int->(ah Node)->(ah cJ)->R
def fY:St U El:=⟨[(1,.ptr 1 0),(3,.cf 3),(7,.au .link x7),(8,.int .i64 x8),(9,.int .i64 x9)],[(3,.rows .pair iA),(1,.box 0 [.au .node mA,.au .link nA])]⟩
def cX(k2:Y2):R:=k2 ([]:ah j9) n.cD (Int.ofNat n.cD.length) (0:Int) n.ct n.cD
def dR:R:=some (.cf 0,[(0,.rows .pair iA)])
def dQ(k1:Y1)(k2:Y2):R:=ai (bz x9 x8) (aU (dV x9 x7.length) (aU (gm (⟨mA,nA⟩:Net)) (aU (gm (⟨mA,nA⟩:Net)) (aU (bU ((List.length iA+List.length ([(⟨(dX (⟨mA,nA⟩:Net) ((x7.getD x9.toNat dz).lf)),(dX (⟨mA,nA⟩:Net) ((x7.getD x9.toNat dz).lt))⟩:j9)]:ah j9))*16) 140737488355328&&bU (List.length iA+List.length ([(⟨(dX (⟨mA,nA⟩:Net) ((x7.getD x9.toNat dz).lf)),(dX (⟨mA,nA⟩:Net) ((x7.getD x9.toNat dz).lt))⟩:j9)]:ah j9)) 9223372036854775807) (k2 (iA++([(⟨(dX (⟨mA,nA⟩:Net) ((x7.getD x9.toNat dz).lf)),(dX (⟨mA,nA⟩:Net) ((x7.getD x9.toNat dz).lt))⟩:j9)]:ah j9)) x7 x8 (i64.wrap (x9+(1:Int))) mA nA))))) (k1 iA)
abbrev ex:=kf X bd an RR
abbrev it:=nO X bd an RR
def gu(gW:bn U El):=it dI [1,1,0,1,0,0] (cu 0 (bG eE gW) nE)
def cQ:=ex [1,1,1] RR nE
def f1:R:=dR iA
def f2:Nat->Y2
 |0=>λ_ _ _ _ _ _=>none
 |n+1=>λiA x7 x8 x9 mA nA=>dQ iA x7 x8 x9 mA nA f1 (f2 n)
def f0:R:=cX n (f2 100000)
theorem E1:(λiA=>(hid cQ) ⟨[(3,.cf 3)],[(3,.rows .pair iA)]⟩)=f1:=by funext iA;refine cm ?_;unfold f1;exact aa
theorem T2:∀n,(λiA x7 x8 x9 mA nA=>gu (hid cQ) n (fY iA x7 x8 x9 mA nA))=f2 n:=by
 intro n;induction n with
 |zero=>rfl
 |succ n ih=>funext iA x7 x8 x9 mA nA;rw[f2];rw[<-E1,<-ih];exact aa
theorem H2:(λiA x7 x8 x9 mA nA=>hid (gu (hid cQ) 100000) (fY iA x7 x8 x9 mA nA))=f2 100000:=by rw[cM];exact(T2 100000)
theorem run:ca X bd an fM [2] [2] [eA .mP n]=f0 n:=by unfold f0;rw[<-H2];exact aa
theorem h_(h:gm n=true):∀(m i:Nat) (out:ah j9),n.cD.length<m+i->i<=n.cD.length->out.length=i->f2 m out n.cD (Int.ofNat n.cD.length) (i:Int) n.ct n.cD=some (qR .pair (out++(n.cD.drop i).map (zu n))):=by
 have hl:=ia (p_ h)
 intro m;induction m with
 |zero=>intro i out h1 h2;omega
 |succ m ih=>
  intro i out h1 h2 h3;show dQ out n.cD (Int.ofNat n.cD.length) (i:Int) n.ct n.cD f1 (f2 m)=_;unfold dQ;by_cases hi:i<n.cD.length
  ·rw[eh (by simp;omega),c9 hi,toNat_nat,bQ hi,eY i ab,show gm ⟨n.ct,n.cD⟩=true from h,xq ab,ih (i+1) _ ab hi (by simp[h3]),fK hi]
   simp only[eZ,ee,dx,b_,eM,gh]
   rfl
  ·have:i=n.cD.length:=ab
   subst this;rw[dF ae,bH]
   simp only[jf,cU]
   rfl
theorem aw(h:gm n=true):f0 n=some (qR .pair (g_ n)):=by
 have:=ia (p_ h)
 exact h_ n h 100000 0 [] ab ab rfl
def c:Ct:=⟨313,ko (A1 (aR .mP) λn=>(gm n,(.cf 0,[(0,.rows .pair (g_ n))]))),zw call313 func313 (a1 λn e_=>⟨(run n).trans (aw n e_),rfl⟩)⟩
end La
namespace Lb
variable(n:Net)
def X:=dp [nS.c,La.c] 9
def fM:Norm U:=⟨[(2,.pair)],[2,3],[2],[],[],[],[]⟩
def f0:R:=aU (gm n) (ai (!(eR n)) (some ((.bP [.cf 0,.int .i64 (1:Int)]),[(0,.rows .pair ([]:ah j9))])) (aU (gm n) (some ((.bP [.cf 0,.int .i64 (0:Int)]),[(0,.rows .pair (g_ n))]))))
theorem run:ca X (dG f240) .d fM [2,3] [2] [eA .mP n]=f0 n:=aa
theorem aw(h:gm n=true):f0 n=some (AJ .pair (bif eR n then g_ n else [],bif eR n then 0 else 1)):=by
 unfold f0;rw[h]
 cases eR n<;>rfl
def c:Ct:=⟨240,ko (A1 (aR .mP) λn=>(gm n,((.bP [.cf 0,(.int .i64 ((bif eR n then 0 else 1)))]),[(0,.rows .pair ((bif eR n then g_ n else [])))]))),zw call240 func240 (a1 λn e_=>⟨(run n).trans (aw n e_),rfl⟩)⟩
end Lb
def zq(total a b:Int):Bool:=bg 0 total&&(bg total 9223372036854775807&&(bg 0 a&&(bg a b&&(bg 1 b&&bg b 9223372036854775807))))
namespace Ev
variable(total t a b:Int)
def X:=dp [⟨191,oC.sp,oC.du⟩,pF.c] 29
def f0:R:=aU (uB (u64.wrap total)&&uB (u64.wrap a)) (aU ((uB (mH (u64.wrap total) (u64.wrap a))&&(uB (oW (u64.wrap total) (u64.wrap a))&&(uB (u64.wrap b)&&bz (mH (u64.wrap total) (u64.wrap a)) (u64.wrap b))))) (gl (i64.wrap ((pF.P (mH (u64.wrap total) (u64.wrap a)) (oW (u64.wrap total) (u64.wrap a)) (u64.wrap b)).1))))
theorem run:ca X (dG f239) .d (cS [6]) [6] [] [.int .i64 total,.int .i64 a,.int .i64 b]=f0 total a b:=aa
theorem bE(h:zq t a b=true):jF qI (f0 t a b):=by
 simp only[zq,aj]at h;obtain⟨h1,h2,h3,h4,h5,h6⟩:=h;have h1:=ja h1;have h2:=ja h2;have h3:=ja h3;have h4:=ja h4;have h5:=ja h5;have h6:=ja h6;unfold f0;rw[pT (x:=t) h1 ab,pT (x:=a) h3 ab,pT (x:=b) ab ab]
 have ht:uB t=true:=gP.2 ⟨h1,ab⟩
 have ha:uB a=true:=gP.2 ⟨h3,ab⟩
 refine .aU (eN ht ha) (.aU (eN (vr ht ha) (eN (ph _ _) (eN (gP.2 ⟨ab,ab⟩) (eh ?_)))) (K7 _))
 unfold mH;rw[mV]
 obtain⟨t,rfl⟩:=bC h1;obtain⟨a,rfl⟩:=bC h3;obtain⟨b,rfl⟩:=bC (show 0<=b by omega)
 simp only[ig]
 have:t*a/18446744073709551616<b:=by
  refine Nat.div_lt_of_lt_mul ?_;exact Nat.mul_lt_mul_of_lt_of_le ab ab ab
 omega
def P:Int:=Classical.epsilon λx=>f0 t a b=some (qI x)
theorem aw(h:zq t a b=true):f0 t a b=gl (P t a b):=(bE t a b h).iJ
def c:Ct:=⟨239,cj (A3 aI aI aI λtotal a b=>(zq total a b,.int .i64 (Ev.P total a b))),ir call239 func239 (a3 λtotal a b e_=>(run total a b).trans (aw total a b e_))⟩
end Ev
namespace X2
variable(e:Int)
def X:=dp [] 8
def fM:Norm U:=⟨[],[8,9,4],[],[],[],[],[]⟩
def f0:R:=some ((.bP [.agg [.cL,.cL,.cL,.cL],(.agg [.int .i64 (0:Int),.int .i64 (0:Int),.cL]),.int .i64 e]),[])
theorem run:gH X (dG f160) .d fM [(2,31),(3,92)] [8,9,4] [] [.int .i64 e]=f0 e:=aa
theorem aw:f0 e=some (.bP [.agg [.cL,.cL,.cL,.cL],.agg [.int .i64 0,.int .i64 0,.cL],.int .i64 e],[]):=rfl
theorem ok:bp prog X:=fV lq (ss _) pD
theorem jE:kZ prog X:=λg sp h=>by cases h
theorem spec:cV prog E 160 [(.int .i64 e)] (.bP [(.agg [.cL,.cL,.cL,.cL]),(.agg [(.int .i64 (0:Int)),(.int .i64 (0:Int)),.cL]),(.int .i64 (e))]) []:=cR ok jE call160 func160 aa aa aa (by show 1<=8;decide) af (by rfl) ((run e).trans (aw e))
def sp:Sp U El:=λargs k=>match args with
 |[.int .i64 e]=>k (.bP [.agg [.cL,.cL,.cL,.cL],(.agg [.int .i64 (0:Int),.int .i64 (0:Int),.cL]),.int .i64 (e)]) []
 |_=>none
theorem du:gQ prog E 160 sp where
 pe:=λvs=>by
  unfold sp;split
  ·exact⟨some (_,_),λ_=>rfl⟩
  ·exact⟨none,λ_=>rfl⟩
 ok:=λvs k r h=>by
  unfold sp at h;split at h
  ·exact⟨_,_,.inl (spec _),h⟩
  ·cases h
end X2
namespace ZP
variable(x:Int)
def X:=dp [Ic.c] 6
def f0:R:=aq (!(bg 0 x&&bg x (1125899906842624:Int)))
theorem run:ca X (dG f162) .d (cS [2]) [2] [] [.int .i64 x]=f0 x:=aa
theorem aw:f0 x=aq (kn x):=by unfold f0;rw[show(!(bg 0 x&&bg x 1125899906842624))=kn x by rw[kk,mi,mi];rfl]
def c:Ct:=⟨162,dU (A1 aI λx=>(.bool (kn x))),oS call162 func162 (a1 λx=>(run x).trans (aw x))⟩
end ZP
namespace UB
def X:=dp [ZP.c] 19
def g:ah (AV U El)->Option (Bool×AV U El)
 |[.au .int l,.fn 162 [] []]=>some (bU l.length 90000,.int .i64 (dM kn 0 l))
 |_=>none
def c:Ct:=⟨173,cj g,ir call173 func173 λvs v h e=>by
 unfold g at h;split at h;cases h;exact qt (X:=X) e aa (λ_ _ _=>aa) aa;cases h⟩
end UB
namespace Q8
def X:=dp [UB.c] 9
def g:ah (AV U El)->Option (Bool×AV U El)
 |[.au .int l,.fn 162 [] []]=>some (bU l.length 90000,.bool (List.any l kn))
 |_=>none
def c:Ct:=⟨101,cj g,ir call101 func101 λvs v h e=>by
 unfold g at h;split at h;cases h;exact cont (X:=X) e aa;cases h⟩
end Q8
namespace Gr
variable(n:Net)(l:ah cK)(s:cO)
def X:=dp [xi.c,wM.c] 14
def f0:R:=aU (gm n) (ai (eR n&&fO n s) (aq (qG l)) (aq false))
theorem run:ca X (dG f161) .d (cS [6]) [6] [] [eA .mP n,.au .dj l,eA .state s]=f0 n l s:=aa
theorem aw(h:gm n=true):f0 n l s=aq (eR n&&(fO n s&&qG l)):=by
 unfold f0;rw[h]
 cases eR n
 ·rfl
 ·cases fO n s<;>rfl
def c:Ct:=⟨161,cj (A3 (aR .mP) (bL .dj) (aR .state) λn l s=>(gm n,(.bool (eR n&&(fO n s&&qG l))))),ir call161 func161 (a3 λn l s e_=>(run n l s).trans (aw n l s e_))⟩
end Gr
def Gb(n:Net)(l:ah cK):Bool:=List.all n.cD λx=> !((!(x.lk !=1))&&((wq.P l x.lc).2 !=0))
namespace Gw
variable(l1:ah cK)(oA:ah cJ)(qA kA:Int)(gW:bn U El)(n:Net)(l:ah cK)
def X:=dp [wq.c] 29
def bd:=dG f164
def RR:bn U El:=λst=>cN (cS [4]) st (ch [4] [])
def eE:Norm U:=cS []
def dI:Norm U:=cS [1,10,11,12]
def an:gb U:=(.seq none .d (.seq (some eE) (.seq none .d (.block (.loop dI (.seq none .d (.seq none .d (.seq (some dI) .d .d)))))) .d))
abbrev Y1:=R
abbrev Y2:=(ah cK)->(ah cJ)->Int->Int->R
abbrev Y3:=(ah cK)->(ah cJ)->Int->Int->R
def fY:St U El:=⟨[(1,.au .dj l1),(10,.au .link oA),(11,.int .i64 qA),(12,.int .i64 kA)],[]⟩
def cX(k2:Y2):R:=k2 l n.cD (Int.ofNat n.cD.length) (0:Int)
def dR:R:=aq true
def dQ(k1:Y1)(k3:Y3):R:=ai (bz kA qA) (aU (dV kA oA.length) (ai ((oA.getD kA.toNat dz).lk !=(1:Int)) (k3 l1 oA qA kA) (aU (bU l1.length 90000) (ai (((wq.P l1 ((oA.getD kA.toNat dz).lc)).2) !=(0:Int)) (aq false) (k3 l1 oA qA kA))))) (k1)
def gf(k2:Y2):R:=k2 l1 oA qA (i64.wrap (kA+(1:Int)))
abbrev ex:=kf X bd an RR
abbrev it:=nO X bd an RR
def gu:=it dI [1,0,1,0,0] (cu 0 (bG eE gW) nE)
def cQ:=ex [1,1] RR nE
def mz(iP:bn U El):=ex [1,0,1,0,0,1,1,1] (bG dI iP) (cu 0 (bG eE gW) nE)
def f1:R:=dR
def f3(k2:Y2)(l1:ah cK)(oA:ah cJ)(qA kA:Int):R:=gf l1 oA qA kA k2
def f2:Nat->Y2
 |0=>λ_ _ _ _=>none
 |n+1=>λl1 oA qA kA=>dQ l1 oA qA kA f1 (f3 (f2 n))
def f0:R:=cX n l (f2 100000)
theorem E1:((hid cQ) ⟨[],[]⟩)=f1:=by refine cm ?_;unfold f1;exact aa
theorem E3(jW:bn U El)(k2:Y2)(h2:(λl1 oA qA kA=>jW (fY l1 oA qA kA))=k2):(λl1 oA qA kA=>(hid (mz (hid cQ) jW)) ⟨[(1,.au .dj l1),(10,.au .link oA),(11,.int .i64 qA),(12,.int .i64 kA)],[]⟩)=f3 k2:=by subst h2;funext l1 oA qA kA;refine cm ?_;unfold f3;exact aa
theorem T2:∀n,(λl1 oA qA kA=>gu (hid cQ) n (fY l1 oA qA kA))=f2 n:=by
 intro n;induction n with
 |zero=>rfl
 |succ n ih=>funext l1 oA qA kA;rw[f2];rw[<-E1,<-E3 (gu (hid cQ) n) _ ih];exact aa
theorem H2:(λl1 oA qA kA=>hid (gu (hid cQ) 100000) (fY l1 oA qA kA))=f2 100000:=by rw[cM];exact(T2 100000)
theorem run:ca X bd an (cS [4]) [4] [] [eA .mP n,.au .dj l]=f0 n l:=by unfold f0;rw[<-H2];exact aa
theorem h_(hl:n.cD.length<=90000)(h2:bU l.length 90000=true): ∀(m i:Nat),n.cD.length<m+i->i<=n.cD.length->f2 m l n.cD (Int.ofNat n.cD.length) (i:Int)=aq ((n.cD.drop i).all λx=> !((!(x.lk !=1))&&((wq.P l x.lc).2 !=0))):=by
 intro m;induction m with
 |zero=>intro i h1 h2;omega
 |succ m ih=>
  intro i h1 h3;show dQ l n.cD (Int.ofNat n.cD.length) (i:Int) f1 (f3 (f2 m))=_;unfold dQ;by_cases hi:i<n.cD.length
  ·have e3:f3 (f2 m) l n.cD (Int.ofNat n.cD.length) (i:Int)=aq ((n.cD.drop (i+1)).all λx=> !((!(x.lk !=1))&&((wq.P l x.lc).2 !=0))):=by
    show f2 m l n.cD (Int.ofNat n.cD.length) (i64.wrap ((i:Int)+1))=_;rw[eY i ab,ih (i+1) ab hi]
   rw[eh (by simp;omega),c9 hi,toNat_nat,bQ hi,h2,e3,fK hi]
   simp only[eZ,ee,l6]
   cases n.cD[i].lk !=1
   ·cases(wq.P l n.cD[i].lc).2 !=0<;>rfl
   ·rfl
  ·have:i=n.cD.length:=ab
   subst this;rw[dF ae,bH]
   rfl
theorem aw(h:(gm n&&bU l.length 90000)=true):f0 n l=aq (Gb n l):=by
 obtain⟨h1,h2⟩:=aZ.1 h;have:=ia (p_ h1)
 exact h_ n l this h2 100000 0 ab ab
def c:Ct:=⟨164,cj (A2 (aR .mP) (bL .dj) λn l=>(gm n&&bU l.length 90000,.bool (Gb n l))),ir call164 func164 (a2 λn l e_=>(run n l).trans (aw n l e_))⟩
end Gw
def rB(s:cO):Bool:=bU s.fH.length 90000&&(Int.ofNat s.gw.length==Int.ofNat s.fH.length)
def kr(c:Int)(l:ah Int):Prop:=∀x∈l,0<=x/\x<=c
theorem kr.set{c:Int}{l:ah Int}(h:kr c l){i:Nat}{y:Int}(h0:0<=y)(h1:y<=c):kr c (l.set i y):=λx hx=>by
 rcases List.mem_or_eq_of_mem_set hx with e|rfl
 ·exact h x e
 ·exact⟨h0,h1⟩
theorem kr.at{c:Int}{l:ah Int}(h:kr c l){i:Nat}(hi:i<l.length):0<=l[i]/\l[i]<=c:=h _ (bW hi)
namespace tb
variable(iA oA:ah Int)(qA kA:Int)(s:cO)
def X:=dp [u7.c] 26
def bd:=dG f166
def fM:Norm U:=⟨[(2,.int)],[2],[2],[],[],[],[]⟩
def RR:bn U El:=λst=>cN fM st (ch [2] [2])
def eE:Norm U:=⟨[(3,.int)],[3],[3],[],[],[],[]⟩
def dI:Norm U:=⟨[(3,.int)],[3,10,11,12],[3],[],[],[],[]⟩
def an:gb U:=(.seq none .d (.seq none .d (.seq (some eE) (.seq none .d (.block (.loop dI .d))) .d)))
abbrev Y1:=(ah Int)->R
abbrev Y2:=(ah Int)->(ah Int)->Int->Int->R
def fY:St U El:=⟨[(3,.cf 3),(10,.au .int oA),(11,.int .i64 qA),(12,.int .i64 kA)],[(3,.rows .int iA)]⟩
def cX(k2:Y2):R:=aU (bU s.fH.length 90000) (k2 (s.fH) s.gw (Int.ofNat s.gw.length) (0:Int))
def dR:R:=some (.cf 0,[(0,.rows .int iA)])
def dQ(k1:Y1)(k2:Y2):R:=ai (bz kA qA) (aU (dV kA oA.length) (aU (dV kA iA.length) (aU (lU kA.toNat iA.length) (aU (dV kA iA.length) (aU (lU kA.toNat iA.length&&true) (k2 (List.set iA kA.toNat (i64.wrap ((iA.getD kA.toNat bF)+(oA.getD kA.toNat bF)))) oA qA (i64.wrap (kA+(1:Int))))))))) (k1 iA)
abbrev ex:=kf X bd an RR
abbrev it:=nO X bd an RR
def gu(gW:bn U El):=it dI [1,1,0,1,0,0] (cu 0 (bG eE gW) nE)
def cQ:=ex [1,1,1] RR nE
def f1:R:=dR iA
def f2:Nat->Y2
 |0=>λ_ _ _ _=>none
 |n+1=>λiA oA qA kA=>dQ iA oA qA kA f1 (f2 n)
def f0:R:=cX s (f2 100000)
theorem E1:(λiA=>(hid cQ) ⟨[(3,.cf 3)],[(3,.rows .int iA)]⟩)=f1:=by funext iA;refine cm ?_;unfold f1;exact aa
theorem T2:∀n,(λiA oA qA kA=>gu (hid cQ) n (fY iA oA qA kA))=f2 n:=by
 intro n;induction n with
 |zero=>rfl
 |succ n ih=>funext iA oA qA kA;rw[f2];rw[<-E1,<-ih];exact aa
theorem H2:(λiA oA qA kA=>hid (gu (hid cQ) 100000) (fY iA oA qA kA))=f2 100000:=by rw[cM];exact(T2 100000)
theorem run:ca X bd an fM [2] [2] [eA .state s]=f0 s:=by unfold f0;rw[<-H2];exact aa
def G(p:ah Int):Prop:=p.length=s.fH.length/\(kr 1125899906842624 s.fH->kr 1125899906842624 s.gw->kr 2251799813685248 p)
theorem h_(hl:s.fH.length<=90000)(hp:s.gw.length=s.fH.length): ∀(m i:Nat) (out:ah Int),s.gw.length<m+i->i<=s.gw.length->out.length=s.fH.length->(∀j (hj:j<out.length) (hv:j<s.fH.length),i<=j->out[j]=s.fH[j])->(kr 1125899906842624 s.fH->kr 1125899906842624 s.gw->kr 2251799813685248 out)->
 kt (qR .int) (G s) (f2 m out s.gw (Int.ofNat s.gw.length) (i:Int)):=by
 intro m;induction m with
 |zero=>intro i out h1 h2;omega
 |succ m ih=>
  intro i out h1 h2 h3 h4 h5;show kt (qR .int) (G s) (dQ out s.gw (Int.ofNat s.gw.length) (i:Int) f1 (f2 m))
  unfold dQ;by_cases hi:i<s.gw.length
  ·have ho:i<out.length:=ab
   rw[eh (by simp;omega),c9 hi,c9 ho,toNat_nat,pw ho,eY i ab,bQ hi,bQ ho]
   simp only[eZ,ee,dJ]
   refine ih _ _ ab hi (by simpa using h3) (λj hj hv H9=>?_) λhv W5=>?_
   ·rw[List.getElem_set_ne ab]
    exact h4 j (by simpa using hj) hv ab
   ·rw[h4 i ho ab ab]
    have a:=hv.at (show i<s.fH.length by omega)
    have b:=W5.at hi;rw[jD ab ab]
    exact(h5 hv W5).set ab ab
  ·have:i=s.gw.length:=ab
   subst this;rw[dF ae]
   exact kt.mk (q:=qR .int) out ⟨h3,h5⟩
theorem bE(h:rB s=true):kt (qR .int) (G s) (f0 s):=by
 simp only[rB,aj,Lk]at h;have hl:=ia h.1;show kt (qR .int) (G s) (cX s (f2 100000))
 refine .aU h.1 (h_ s hl h.2 100000 0 s.fH ab ab rfl (λ_ _ _ _=>rfl) λhv _ x hx=>?_)
 have:=hv x hx;omega
def P:ah Int:=Classical.epsilon λa=>f0 s=some (qR .int a)/\G s a
theorem OS{s:cO}(h:rB s=true):G s (P s):=(bE s h).iJ.2
theorem aw(h:rB s=true):f0 s=some (qR .int (P s)):=(bE s h).iJ.1
def c:Ct:=⟨166,ko (A1 (aR .state) λs=>(rB s,(.cf 0,[(0,.rows .int (tb.P s))]))),zw call166 func166 (a1 λs e_=>⟨(run s).trans (aw s e_),rfl⟩)⟩
end tb
namespace CN
variable(s:cO)
def X:=dp [u7.c,GR.c] 16
def fM:Norm U:=⟨[],[16],[5000,8000,11000,14000],[],[],[],[]⟩
def RR:bn U El:=λst=>fz X 16 [(2,31)] 16 st λst=>cN fM st (qH [16])
def an:gb U:=(.seq none .d (.seq none (.region [(13,2)]) .d))
def f0:R:=aU (bU s.fH.length 90000) (aU (bU s.gw.length 90000) (aU (bU s.dH.length 90000) (aU (bU s.ik.length 90000) (some (.agg [.cf 5000,.cf 8000,.cf 11000,.cf 14000],[(5000,.rows .int (s.fH)),(8000,.rows .int (s.gw)),(11000,.rows .int (s.dH)),(14000,.rows .bool (s.ik))])))))
theorem run:Hm X (dG f165) an fM [(2,31)] [16] [] [.agg [.au .int s.fH,.au .int s.gw,.au .int s.dH,.au .bool s.ik]]=f0 s:=aa
theorem aw(h:uK s=true):f0 s=some (.agg [.cf 5000,.cf 8000,.cf 11000,.cf 14000],[(5000,.rows .int s.fH),(8000,.rows .int s.gw),(11000,.rows .int s.dH),(14000,.rows .bool s.ik)]):=by
 simp only[uK,aj]at h;unfold f0;rw[h.1,h.2.1,h.2.2.1,h.2.2.2]
 rfl
theorem ok:bp prog X:=fV lq (ss _) pD
theorem jE:kZ prog X:=λg sp h=>by cases h
theorem spec(h:(uK s)=true):lT prog E 165 [(.agg [(.au .int s.fH),(.au .int s.gw),(.au .int s.dH),(.au .bool s.ik)])] [] (.agg [(.cf 5000),(.cf 8000),(.cf 11000),(.cf 14000)]) [(5000,(.rows .int (cO.fH s))),(8000,(.rows .int (cO.gw s))),(11000,(.rows .int (cO.dH s))),(14000,(.rows .bool (cO.ik s)))]:=pW ok jE func165 aa aa aa (by show 1<=16;decide) ((run s).trans (aw s h))
def sp:wF U El:=λargs hs k=>match args,hs with
 |[.agg [.au .int ji,.au .int jk,.au .int gG,.au .bool jm]],[]=>aU true (aU (uK (⟨ji,jk,gG,jm⟩:cO)) (k (.agg [.cf 5000,.cf 8000,.cf 11000,.cf 14000]) [(5000,(.rows .int (cO.fH (⟨ji,jk,gG,jm⟩:cO)))),(8000,(.rows .int (cO.gw (⟨ji,jk,gG,jm⟩:cO)))),(11000,(.rows .int (cO.dH (⟨ji,jk,gG,jm⟩:cO)))),(14000,(.rows .bool (cO.ik (⟨ji,jk,gG,jm⟩:cO))))]))
 |_,_=>none
theorem du:ql prog E 165 sp:=⟨call165,λargs hs k r h=>by
 unfold sp at h;split at h
 ·obtain⟨_,hA⟩:=aQ h;obtain⟨h1,hB⟩:=aQ hA;exact⟨_,_,spec ⟨_,_,_,_⟩ h1,hB⟩
 ·cases h⟩
theorem vE:∀args hs,∃oo:Option (AV U El×bI U El),∀k,sp args hs k=oo.bind λp=>k p.1 p.2:=λargs hs=>by
 unfold sp;split
 ·exact iC (iC ⟨some (_,_),λ_=>rfl⟩)
 ·exact⟨none,λ_=>rfl⟩
end CN
theorem Rl{x:Node}(h:pv x=true):yf x<=1125899906842624:=by
 unfold yf;cases e:x.nk==3 with
 |true=>show(0:Int)<=1125899906842624;decide
 |false=>
  simp only[pv,aj,e,cond_false]at h;obtain⟨_,_,_,_,_,h⟩:=h;cases e2:(x.nk==1||x.nk==2)with
  |false=>rw[e2,cond_false]at h;cases h
  |true=>
   rw[e2,cond_true]at h;simp only[aj,iZ]at h;exact ja h.2.1.2.2.2.2
theorem Dv{n:Net}{s:cO}(hn:eR n=true)(h:fO n s=true):kr 1125899906842624 s.fH/\kr 1125899906842624 s.gw:=by
 obtain⟨l1,l2,_,_⟩:=km h;simp only[fO,aj]at h;have ha:=wx.1 h.2.2.2.2.1;constructor
 ·intro x hx;obtain⟨i,hi,rfl⟩:=iv hx;have:=ha i n.ct[i] (az ab)
  simp only[uM,aj,bZ,bQ hi]at this;have c:=Rl (tL hn n.ct[i] (bW _))
  exact⟨ja this.1.1,Int.le_trans (ja this.1.2) c⟩
 ·intro x hx;obtain⟨i,hi,rfl⟩:=iv hx;have:=ha i n.ct[i] (az ab)
  simp only[uM,aj,bZ,bQ hi]at this;exact⟨ja this.2.1.1,ja this.2.1.2⟩
def ru(n:Net)(v p hl:ah Int):Bool:=bU n.ct.length 90000&&(Nat.beq v.length n.ct.length&&(Nat.beq p.length n.ct.length&&Nat.beq hl.length n.ct.length))
namespace ef
variable(fA:Bool)(pA:ah Node)(rA lA:Int)(aA:ah Int)(gW:bn U El)(n:Net)(se:ah Int)(jW:bn U El)
def X:=dp [Dx.c] 74
def bd:=dG f167
def fM:Norm U:=⟨[],[6],[1000000000,1000000001,1000000002,1000000003],[],[(1000000000,0,.int,1000000002),(1000000000,1,.int,1000000003)],[],[]⟩
def RR:bn U El:=λst=>cN fM st (qH [6])
def eE:Norm U:=⟨[],[7],[1000000000,1000000002,1000000003,1000000001],[],[(1000000000,0,.int,1000000002),(1000000000,1,.int,1000000003)],[],[(1000000000,2,.int),(1000000000,3,.bool)]⟩
def dI:Norm U:=⟨[],[1,2,7,13,14,15],[1000000000,1000000002,1000000003,1000000001],[],[(1000000000,0,.int,1000000002),(1000000000,1,.int,1000000003)],[],[(1000000000,2,.int),(1000000000,3,.bool)]⟩
def an:gb U:=(.seq none .d (.seq none .d (.seq (some eE) (.seq none .d (.block (.loop dI (.seq none .d (.seq none .d (.seq (some dI) (.block (.seq none .d (.seq none .d (.seq (some (⟨[],[1,2,7,8,10,13,14,15],[1000000000,1000000002,1000000003,1000000001],[],[(1000000000,0,.int,1000000002),(1000000000,1,.int,1000000003)],[],[(1000000000,2,.int),(1000000000,3,.bool)]⟩)) .d (.seq none (.region [(12,1000000002)]) (.seq none (.region [(18,1000000003)]) .d)))))) .d)))))) .d)))
abbrev Y1:=Bool->(ah Int)->(ah Int)->(ah Int)->(ah Bool)->(ah Int)->R
abbrev Y2:=Bool->(ah Node)->Int->Int->(ah Int)->(ah Int)->(ah Int)->(ah Bool)->(ah Int)->R
abbrev Y3:=Bool->(ah Node)->Int->Int->(ah Int)->(ah Int)->(ah Int)->(ah Bool)->(ah Int)->R
abbrev Y4:=Bool->Int->Int->(ah Node)->Int->Int->(ah Int)->(ah Int)->(ah Int)->(ah Bool)->(ah Int)->R
def fY(bA cA:ah Int)(dA:ah Bool)(jA:ah Int):St U El:=⟨[(1,.ptr 1000000000 0),(2,.cf 1000000001),(7,.bool fA),(13,.au .node pA),(14,.int .i64 rA),(15,.int .i64 lA)],[(1000000000,.box 1000000000 [.cf 1000000002,.cf 1000000003,.au .int cA,.au .bool dA]),(1000000002,.rows .int aA),(1000000003,.rows .int bA),(1000000001,.pZ 1000000001 .int jA)]⟩
def cX(on:ah Bool)(hl v p:ah Int)(k2:Y2):R:=k2 true n.ct (Int.ofNat n.ct.length) (0:Int) v p se on hl
def dR(bA cA:ah Int)(dA:ah Bool)(jA:ah Int):R:=some (.bool fA,[(1000000000,.box 1000000000 [.cf 1000000002,.cf 1000000003,.au .int cA,.au .bool dA]),(1000000001,.pZ 1000000001 .int jA),(1000000002,.rows .int aA),(1000000003,.rows .int bA)])
def dQ(bA cA:ah Int)(dA:ah Bool)(jA:ah Int)(k1:Y1)(k4:Y4):R:=ai (bz lA rA) (aU (dV lA pA.length) (ai ((pA.getD lA.toNat fU).nk==(3:Int)) (aU (dV lA jA.length) (aU (lU lA.toNat jA.length&&true) (k4 fA lA ((Dx.P (pA.getD lA.toNat fU)).1) pA rA lA aA bA cA dA (List.set jA lA.toNat (0:Int))))) (k4 fA lA ((Dx.P (pA.getD lA.toNat fU)).1) pA rA lA aA bA cA dA jA))) (k1 fA aA bA cA dA jA)
def gf(bA cA:ah Int)(dA:ah Bool)(jA:ah Int)(k2:Y2):R:=k2 fA pA rA (i64.wrap (lA+(1:Int))) aA bA cA dA jA
def l_(i8 gA:Int)(pA:ah Node)(rA lA:Int)(aA bA cA:ah Int)(dA:ah Bool)(jA:ah Int)(k3:Y3):R:=aU (dV i8 jA.length) (aU (lU i8.toNat jA.length) (aU (dV i8 aA.length) (aU (lU i8.toNat aA.length&&true) (aU (dV i8 jA.length) (aU (lU i8.toNat jA.length) (aU (dV i8 (List.length (List.set aA i8.toNat (bif bz gA (jA.getD i8.toNat bF)then gA else(jA.getD i8.toNat bF))))) (aU (lU i8.toNat (List.length (List.set aA i8.toNat (bif bz gA (jA.getD i8.toNat bF)then gA else(jA.getD i8.toNat bF))))) (aU (dV i8 bA.length) (aU (lU i8.toNat bA.length&&true) (ai fA (aU (dV i8 (List.length (List.set bA i8.toNat (i64.wrap ((jA.getD i8.toNat bF)-(List.getD (List.set aA i8.toNat (bif bz gA (jA.getD i8.toNat bF)then gA else(jA.getD i8.toNat bF))) i8.toNat bF)))))) (aU (lU i8.toNat (List.length (List.set bA i8.toNat (i64.wrap ((jA.getD i8.toNat bF)-(List.getD (List.set aA i8.toNat (bif bz gA (jA.getD i8.toNat bF)then gA else(jA.getD i8.toNat bF))) i8.toNat bF)))))) (k3 (bg (List.getD (List.set bA i8.toNat (i64.wrap ((jA.getD i8.toNat bF)-(List.getD (List.set aA i8.toNat (bif bz gA (jA.getD i8.toNat bF)then gA else(jA.getD i8.toNat bF))) i8.toNat bF)))) i8.toNat bF) (1125899906842624:Int)) pA rA lA (List.set aA i8.toNat (bif bz gA (jA.getD i8.toNat bF)then gA else(jA.getD i8.toNat bF))) (List.set bA i8.toNat (i64.wrap ((jA.getD i8.toNat bF)-(List.getD (List.set aA i8.toNat (bif bz gA (jA.getD i8.toNat bF)then gA else(jA.getD i8.toNat bF))) i8.toNat bF)))) cA dA jA))) (k3 false pA rA lA (List.set aA i8.toNat (bif bz gA (jA.getD i8.toNat bF)then gA else(jA.getD i8.toNat bF))) (List.set bA i8.toNat (i64.wrap ((jA.getD i8.toNat bF)-(List.getD (List.set aA i8.toNat (bif bz gA (jA.getD i8.toNat bF)then gA else(jA.getD i8.toNat bF))) i8.toNat bF)))) cA dA jA)))))))))))
abbrev ex:=kf X bd an RR
abbrev it:=nO X bd an RR
def gu:=it dI [1,1,0,1,0,0] (cu 0 (bG eE gW) nE)
def cQ:=ex [1,1,1] RR nE
def mz(iP:bn U El):=ex [1,1,0,1,0,0,1,1,1] (bG dI iP) (cu 0 (bG eE gW) nE)
def pH(oV:bn U El):=ex [1,1,0,1,0,0,1,1,0,0,1,1,1] (bG dI oV) (cu 1 (bG dI oV) (cu 0 (bG eE gW) nE))
def f1(bA cA:ah Int)(dA:ah Bool)(jA:ah Int):R:=dR fA aA bA cA dA jA
def f3(k2:Y2)(fA:Bool)(pA:ah Node)(rA lA:Int)(aA bA cA:ah Int)(dA:ah Bool)(jA:ah Int):R:=gf fA pA rA lA aA bA cA dA jA k2
def f4(k2:Y2)(fA:Bool)(i8 gA:Int)(pA:ah Node)(rA lA:Int)(aA bA cA:ah Int)(dA:ah Bool)(jA:ah Int):R:=l_ fA i8 gA pA rA lA aA bA cA dA jA (f3 k2)
def f2:Nat->Y2
 |0=>λ_ _ _ _ _ _ _ _ _=>none
 |n+1=>λfA pA rA lA aA bA cA dA jA=>dQ fA pA rA lA aA bA cA dA jA f1 (f4 (f2 n))
def f0(on:ah Bool)(hl v p:ah Int):R:=cX n se on hl v p (f2 100000)
theorem E1:(λfA aA bA cA dA jA=>(hid cQ) ⟨[(7,.bool fA)],[(1000000000,.box 1000000000 [.cf 1000000002,.cf 1000000003,.au .int cA,.au .bool dA]),(1000000002,.rows .int aA),(1000000003,.rows .int bA),(1000000001,.pZ 1000000001 .int jA)]⟩)=f1:=by funext fA aA bA cA dA jA;refine cm ?_;unfold f1;exact aa
theorem E3(k2:Y2)(h2:(λfA pA rA lA aA bA cA dA jA=>jW (fY fA pA rA lA aA bA cA dA jA))=k2):(λfA pA rA lA aA bA cA dA jA=>(hid (mz (hid cQ) jW)) ⟨[(1,.ptr 1000000000 0),(2,.cf 1000000001),(7,.bool fA),(13,.au .node pA),(14,.int .i64 rA),(15,.int .i64 lA)],[(1000000000,.box 1000000000 [.cf 1000000002,.cf 1000000003,.au .int cA,.au .bool dA]),(1000000002,.rows .int aA),(1000000003,.rows .int bA),(1000000001,.pZ 1000000001 .int jA)]⟩)=f3 k2:=by subst h2;funext fA pA rA lA aA bA cA dA jA;refine cm ?_;unfold f3;exact aa
theorem E4(k2:Y2)(h2:(λfA pA rA lA aA bA cA dA jA=>jW (fY fA pA rA lA aA bA cA dA jA))=k2):(λfA i8 gA pA rA lA aA bA cA dA jA=>(hid (pH (hid cQ) (hid (mz (hid cQ) jW)))) ⟨[(1,.ptr 1000000000 0),(2,.cf 1000000001),(7,.bool fA),(8,.int .i64 i8),(10,.int .i64 gA),(13,.au .node pA),(14,.int .i64 rA),(15,.int .i64 lA)],[(1000000000,.box 1000000000 [.cf 1000000002,.cf 1000000003,.au .int cA,.au .bool dA]),(1000000002,.rows .int aA),(1000000003,.rows .int bA),(1000000001,.pZ 1000000001 .int jA)]⟩)=f4 k2:=by subst h2;funext fA i8 gA pA rA lA aA bA cA dA jA;refine cm ?_;unfold f4;rw[<-E3 jW _ rfl];exact aa
theorem T2:∀n,(λfA pA rA lA aA bA cA dA jA=>gu (hid cQ) n (fY fA pA rA lA aA bA cA dA jA))=f2 n:=by
 intro n;induction n with
 |zero=>rfl
 |succ n ih=>funext fA pA rA lA aA bA cA dA jA;rw[f2];rw[<-E1,<-E4 (gu (hid cQ) n) _ ih];exact aa
theorem H2:(λfA pA rA lA aA bA cA dA jA=>hid (gu (hid cQ) 100000) (fY fA pA rA lA aA bA cA dA jA))=f2 100000:=by rw[cM];exact(T2 100000)
theorem run(on)(hl)(v)(p):runM X bd an fM [6] [(1000000000,.box 1000000000 [.cf 1000000002,.cf 1000000003,.au .int se,.au .bool on]),(1000000001,.pZ 1000000001 .int hl),(1000000002,.rows .int v),(1000000003,.rows .int p)] [.agg [.au .node n.ct,.au .link n.cD],.ptr 1000000000 0,.cf 1000000001]=f0 n se on hl v p:=by unfold f0;rw[<-H2];exact aa
abbrev V4:=ah Int×ah Int×ah Int×Bool
instance:Nonempty V4:=⟨([],[],[],false)⟩
def q(on:ah Bool)(a:V4):Fin U El:=(.bool a.2.2.2,[(1000000000,.box 1000000000 [.cf 1000000002,.cf 1000000003,.au .int se,.au .bool on]),(1000000001,.pZ 1000000001 .int a.1),(1000000002,.rows .int a.2.1),(1000000003,.rows .int a.2.2.1)])
def G(hl:ah Int)(a:V4):Prop:=a.1.length=n.ct.length/\a.2.1.length=n.ct.length/\a.2.2.1.length=n.ct.length/\∀c,0<=c->kr c hl->kr c a.1
theorem h_(on:ah Bool)(Gq:ah Int)(hn:n.ct.length<=90000): ∀(m i:Nat) (b:Bool) (v p hl:ah Int),n.ct.length<m+i->i<=n.ct.length->v.length=n.ct.length->p.length=n.ct.length->hl.length=n.ct.length->(∀c,0<=c->kr c Gq->kr c hl)->
 kt (q se on) (G n Gq) (f2 m b n.ct (Int.ofNat n.ct.length) (i:Int) v p se on hl):=by
 intro m;induction m with
 |zero=>intro i b v p hl h1 h2;omega
 |succ m ih=>
  intro i b v p hl h1 h2 hv hp hh hc;show kt (q se on) (G n Gq) (dQ b n.ct (Int.ofNat n.ct.length) (i:Int) v p se on hl f1 (f4 (f2 m)))
  unfold dQ;by_cases hi:i<n.ct.length
  ·have e4: ∀(r:Int) (dq:ah Int),dq.length=n.ct.length->(∀c,0<=c->kr c Gq->kr c dq)->kt (q se on) (G n Gq) (f4 (f2 m) b (i:Int) r n.ct (Int.ofNat n.ct.length) (i:Int) v p se on dq):=λr dq h5 h6=>by
    show kt (q se on) (G n Gq) (l_ b (i:Int) r n.ct (Int.ofNat n.ct.length) (i:Int) v p se on dq (f3 (f2 m)))
    unfold l_;have e3:∀b' v' p',v'.length=n.ct.length->p'.length=n.ct.length->kt (q se on) (G n Gq) (f3 (f2 m) b' n.ct (Int.ofNat n.ct.length) (i:Int) v' p' se on dq):=λb' v' p' k1 k2=>by
     show kt (q se on) (G n Gq) (f2 m b' n.ct (Int.ofNat n.ct.length) (i64.wrap ((i:Int)+1)) v' p' se on dq)
     rw[eY i ab]
     exact ih _ _ _ _ _ ab hi k1 k2 h5 h6
    have q1:i<dq.length:=ab
    have q2:i<v.length:=ab
    have q3:i<p.length:=ab
    simp only[toNat_nat,List.length_set,c9 q1,c9 q2,c9 q3,pw q1,pw q2,pw q3,eZ,dJ]
    exact .fy (λ_=>e3 _ _ _ (by simpa using hv) (by simpa using hp)) (λ_=>e3 _ _ _ (by simpa using hv) (by simpa using hp))
   rw[eh (by simp;omega),c9 hi,c9 (show i<hl.length by omega),toNat_nat,pw (show i<hl.length by omega)]
   simp only[eZ,ee,dJ]
   exact .fy (λ_=>e4 _ _ (by simpa using hh) λc c0 k=>(hc c c0 k).set (j_ 0) c0) (λ_=>e4 _ _ hh hc)
  ·have:i=n.ct.length:=ab
   subst this;rw[dF ae]
   exact kt.mk (q:=q se on) (hl,v,p,b) ⟨hh,hv,hp,hc⟩
theorem bE(on:ah Bool)(hl v p:ah Int)(h:ru n v p hl=true):kt (q se on) (G n hl) (f0 n se on hl v p):=by simp only[ru,aj]at h;have:=ia h.1;exact h_ n se on hl this 100000 0 true v p hl ab ab (al h.2.1) (al h.2.2.1) (al h.2.2.2) (λ_ _ h=>h)
def P(on:ah Bool)(hl v p:ah Int):V4:=Classical.epsilon λa=>f0 n se on hl v p=some (q se on a)/\G n hl a
theorem OS{n:Net}{se:ah Int}{on:ah Bool}{hl v p:ah Int}(h:ru n v p hl=true):G n hl (P n se on hl v p):=(bE n se on hl v p h).iJ.2
theorem aw(on:ah Bool)(hl v p:ah Int)(h:ru n v p hl=true):f0 n se on hl v p=some (q se on (P n se on hl v p)):=(bE n se on hl v p h).iJ.1
theorem ok:bp prog X:=fV lq (ss _) pD
theorem jE:kZ prog X:=λg sp h=>by cases h
theorem spec(on:ah Bool)(hl v p:ah Int)(h:(ru n v p hl)=true):lT prog E 167 [(.agg [(.au .node n.ct),(.au .link n.cD)]),(.ptr 1000000000 0),(.cf 1000000001)] [(1000000000,(.box 1000000000 [(.cf 1000000002),(.cf 1000000003),(.au .int se),(.au .bool on)])),(1000000001,(.pZ 1000000001 .int hl)),(1000000002,(.rows .int v)),(1000000003,(.rows .int p))] (.bool ((ef.P n se on hl v p).2.2.2)) [(1000000000,(.box 1000000000 [(.cf 1000000002),(.cf 1000000003),(.au .int se),(.au .bool on)])),(1000000001,(.pZ 1000000001 .int ((ef.P n se on hl v p).1))),(1000000002,(.rows .int ((ef.P n se on hl v p).2.1))),(1000000003,(.rows .int ((ef.P n se on hl v p).2.2.1)))]:=pr ok jE func167 aa aa aa (by show 3<=74;decide) ((run n se on hl v p).trans (aw n se on hl v p h))
def sp:wF U El:=λargs hs k=>match args,hs with
 |[.agg [.au .node jn,.au .link jo],.ptr q0 0,.cf q1],[(q2,.box q3 [.cf q4,.cf q5,.au .int se,.au .bool on]),(q6,.pZ q7 .int hl),(q8,.rows .int v),(q9,.rows .int p)]=>aU (Nat.beq q0 1000000000&&(Nat.beq q1 1000000001&&(Nat.beq q2 1000000000&&(Nat.beq q3 1000000000&&(Nat.beq q4 1000000002&&(Nat.beq q5 1000000003&&(Nat.beq q6 1000000001&&(Nat.beq q7 1000000001&&(Nat.beq q8 1000000002&&(Nat.beq q9 1000000003&&true)))))))))) (aU (ru (⟨jn,jo⟩:Net) v p hl) (k (.bool ((ef.P (⟨jn,jo⟩:Net) se on hl v p).2.2.2)) [(1000000000,.box 1000000000 [.cf 1000000002,.cf 1000000003,.au .int se,.au .bool on]),(1000000001,(.pZ 1000000001 .int ((ef.P (⟨jn,jo⟩:Net) se on hl v p).1))),(1000000002,(.rows .int ((ef.P (⟨jn,jo⟩:Net) se on hl v p).2.1))),(1000000003,(.rows .int ((ef.P (⟨jn,jo⟩:Net) se on hl v p).2.2.1)))]))
 |_,_=>none
theorem du:ql prog E 167 sp:=⟨call167,λargs hs k r h=>by
 unfold sp at h;split at h
 ·obtain⟨hq,hA⟩:=aQ h;clear h;simp only[aj]at hq;obtain⟨e0,e1,e2,e3,e4,e5,e6,e7,e8,e9,_⟩:=hq;cases al e0;cases al e1;cases al e2;cases al e3;cases al e4;cases al e5;cases al e6;cases al e7;cases al e8;cases al e9;obtain⟨h1,hB⟩:=aQ hA;exact⟨_,_,spec ⟨_,_⟩ _ _ _ _ _ h1,hB⟩
 ·cases h⟩
theorem vE:∀args hs,∃oo:Option (AV U El×bI U El),∀k,sp args hs k=oo.bind λp=>k p.1 p.2:=λargs hs=>by
 unfold sp;split
 ·exact iC (iC ⟨some (_,_),λ_=>rfl⟩)
 ·exact⟨none,λ_=>rfl⟩
end ef
end
end Go.Proofs.YtfmamkmmohilgaaGreatDoor
namespace Go.Proofs.YtfmamkmmohilgaaGreatDoor
open IntKind
set_option linter.all false
open Go.RowKit
section
variable{U:Type}{El:U->Type}{P:Program}{X:Ctx U El}{S S' S0:Nat->Prop}{ρ ρ':eJ}{w w' w0:World} [DecidableEq U] [tD]
variable{a a':Act}{st bx:St U El}{B B':Bd}{jZ:Nat->Option Loc}
theorem piece(hF:wz X)(hX:bp P X)(hM:kZ P X){c:Code}{n:gb U}{Q:Exit->Act->World->Prop}(KP:St U El->Prop)(EP:Nat->St U El->Prop)(RP:St U El->Prop)
 (hs:bK X B S0 w0 st a w)
 (de:∀(r:Fin U El) (K:bn U El) (E:Nat->bn U El) (R:bn U El),(∀st,KP st->K st=some r)->(∀i st,EP i st->E i st=some r)->(∀st,RP st->R st=some r)->exec X c n st K E R=some r)
 (hK:∀bx a' w',KP bx->bK X B S0 w0 bx a' w'->Q .normal a' w') (hE:∀i bx a' w',EP i bx->bK X B S0 w0 bx a' w'->Q (.exit i) a' w') (hR:∀bx a' w',RP bx->bK X B S0 w0 bx a' w'->Q .ret a' w'):c.wp P Q a w:=by
 classical
 refine mw (r:=(.j5,[])) hF hX hM c n st (λs=>if KP s then some (.j5,[])else none) (λi s=>if EP i s then some (.j5,[])else none) (λs=>if RP s then some (.j5,[])else none) a w Q
  (λbx a' w' h e=>?_) (λi bx a' w' h e=>?_) (λbx a' w' h e=>?_) hs (de _ _ _ _ (λst h=>if_pos h) (λi st h=>if_pos h) (λst h=>if_pos h))
 ·by_cases k:KP bx
  ·exact hK bx a' w' k h
  ·rw[if_neg k]at e;cases e
 ·by_cases k:EP i bx
  ·exact hE i bx a' w' k h
  ·rw[if_neg k]at e;cases e
 ·by_cases k:RP bx
  ·exact hR bx a' w' k h
  ·rw[if_neg k]at e;cases e
theorem FI{r:Fin U El}{k:St U El->Option (Fin U El)}{ops:Array Oper}{Q:Exit->Act->World->Prop}(hX:bp P X)(hM:kZ P X)(tail:ah Oper):
 ∀(os:ah Oper) (j:Nat) (st:St U El) (a:Act) (w:World),ops.toList.drop j=os++tail->(∀o∈os,o.guard=none)->bK X B S0 w0 st a w->ju X [] os st k=some r->
  (∀bx a' w',bK X B S0 w0 bx a' w'->k bx=some r->wpOps P ops Q (List.range' (j+os.length) tail.length) a' w')->wpOps P ops Q (List.range' j (os++tail).length) a w:=by
 intro os;induction os with
 |nil=>intro j st a w hd _ hs hv hN;exact hN st a w hs hv
 |cons o os ih=>
  intro j st a w hd hg hs hv hN;have ho:ops[j]?=some o:=by
   have:(ops.toList.drop j)[0]?=some o:=by rw[hd];rfl
   rw[cg]at this;simpa using this
  have rZ:ops.toList.drop (j+1)=os++tail:=by
   rw[<-List.drop_drop,hd];rfl
  have Uj:o.guard=none:=hg o ae
  simp only[eM,cI,lJ]
  rw[wpOps_cons]
  unfold wpOp;rw[ho]
  simp only[ju,guardOf,Uj]at hv;have hw:Region.wanted o (yielded ops a.tmps)=true:=by simp[Region.wanted,Uj]
  simp only[hw,if_true]
  refine .inl ?_;obtain⟨t',hk,lS⟩:=l7 hv;have CG:bK X B S0 w0 ⟨t',st.h⟩ a w:=by
   rcases lS with rfl|⟨g,b,hg,rfl⟩
   ·exact hs
   ·exact hs.refine hg
  obtain⟨KB,⟨S,ρ,hi⟩,yw⟩:=mZ hX CG hk;refine mX hX hM hi yw λHe a3 w3 h3 h4=>?_
  refine ih (j+1) He a3 w3 rZ (λo ho=>hg o (by simp[ho])) h3 h4 λbx a' w' h5 h6=>?_
  have:=hN bx a' w' h5 h6;rwa [cI,show j+(os.length+1)=j+1+os.length by omega]at this
def jc(h:bI U El)(ρ:eJ)(k:Nat):Prop:=∃id b l,aN h id=some b/\ρ id=some l/\l.n≠0/\l.b=k
def tight(w:World)(h:bI U El)(ρ:eJ)(jZ:Nat->Option Loc):Bd:=⟨λk=>w.heap.size<=k\/jc h ρ k,jZ,[]⟩
theorem dt.pins{E:fZ U El}{l:Loc}{b:qm U El}(h:dt E S ρ w B l b)(hB:l.n≠0->B'.own l.b)(hP:b.tag=0\/B'.jZ b.tag=some l):dt E S ρ w B' l b:=by
 cases b with
 |rows u xs=>obtain⟨h1,h2,h3,h⟩:=h;exact⟨h1,h2,h3,λhn=>⟨hB hn,(h hn).2⟩⟩
 |box t cs=>obtain⟨h0,h1,h⟩:=h;exact⟨hP,h1,λhn=>⟨hB hn,(h hn).2⟩⟩
 |uk T j=>obtain⟨h1,h⟩:=h;exact⟨h1,hB ab,h.2⟩
 |map u v es=>obtain⟨h1,h⟩:=h;exact⟨h1,hB ab,h.2⟩
 |jC u ks cs=>obtain⟨h1,h⟩:=h;exact⟨h1,hB ab,h.2⟩
 |pZ t u xs=>obtain⟨h0,h1,h2,h3,h⟩:=h;exact⟨hP,h1,h2,h3,λhn=>⟨hB hn,(h hn).2⟩⟩
structure gR (X:Ctx U El) (w0:World) (S0:Nat->Prop) (S:Nat->Prop) (ρ:eJ) (jZ:Nat->Option Loc) (st:St U El) (a:Act) (w:World):Prop where
 inv:Inv X (tight w st.h ρ jZ) S w S ρ st a w
 fr:Fr (From w0) w0 w
 s0:∀b,S0 b->S b
 s1:∀b,S b->S0 b\/w0.heap.size<=b
 own:∀k,jc st.h ρ k->w0.heap.size<=k
 g:∀w2,Fr (From w0) w0 w2->X.E.G w2
 nf:wz X
theorem gR.start(hi:Inv X (From w) S0 w S ρ st a w)(hp:∀id b,aN st.h id=some b->b.tag=0)(hF:wz X:=by rfl):gR X w S0 S ρ (λ_=>none) st a w:=by
 have gK:∀k,jc st.h ρ k->w.heap.size<=k:=by
  rintro k ⟨id,b,l,h1,h2,h3,rfl⟩
  obtain⟨l',e,hb⟩:=hi.heap.get id b h1;rw[h2]at e;cases e;exact(hb.lt h3).2.1
 refine⟨⟨hi.defers,hi.size,Fr.refl _ _,λk hk=>.inl hk,λ_ h=>h,λ_ h=>.inl h,λw' hb=>hi.g0 w' (hb.mono λk hk=>hk.elim id (gK k)),hi.tmps,⟨λid b hg=>?_,hi.heap.inj,hi.heap.lt⟩⟩,Fr.refl _ _,hi.s0,hi.s1,gK,hi.g0,hF⟩
 obtain⟨l,h1,h2⟩:=hi.heap.get id b hg;exact⟨l,h1,h2.pins (λhn=>.inr ⟨id,b,l,hg,h1,hn,rfl⟩) (.inl (hp id b hg))⟩
theorem gR.next(h:gR X w0 S0 S ρ jZ st a w)(hs:bK X (tight w st.h ρ jZ) S w bx a' w'):∃S' ρ',gR X w0 S0 S' ρ' jZ bx a' w'/\(∀b,S b->S' b)/\(∀b,S b->w'.heap[b]?=w.heap[b]?)/\w.heap.size<=w'.heap.size/\
 (∀k,k<w.heap.size->¬jc st.h ρ k->w'.heap[k]?=w.heap[k]?/\ ¬jc bx.h ρ' k/\(¬S k->¬S' k)):=by
 obtain⟨S',ρ',hi⟩:=hs;have hSn:∀b,S b->¬jc st.h ρ b:=by
  rintro b hb ⟨id,bl,l,h1,h2,h3,rfl⟩
  obtain⟨l',e,iV⟩:=h.inv.heap.get id bl h1;rw[h2]at e;cases e;exact(iV.lt h3).2.2 hb
 have gK:∀k,jc bx.h ρ' k->w.heap.size<=k\/jc st.h ρ k:=by
  rintro k ⟨id,b,l,h1,h2,h3,rfl⟩
  obtain⟨l',e,hb⟩:=hi.heap.get id b h1;rw[h2]at e;cases e;exact(hb.lt h3).2.1
 have hsz:=hi.below.size;have LB:∀k,w.heap.size<=k\/jc st.h ρ k->w0.heap.size<=k:=λk hk=>hk.elim (λe=>ck h.fr.size e) (h.own k)
 have Pu:∀k,k<w.heap.size->¬jc st.h ρ k->w'.heap[k]?=w.heap[k]?:=λk hk hn=>hi.below.block k hk λe=>e.elim (λe=>ab) hn
 refine⟨S',ρ',⟨⟨hi.defers,hi.size,Fr.refl _ _,λk hk=>.inl hk,λ_ h=>h,λ_ h=>.inl h,λw2 hb=>hi.g0 w2 ?_,hi.tmps,⟨λid b hg=>?_,hi.heap.inj,hi.heap.lt⟩⟩,h.fr.trans (hi.below.mono LB),λb hb=>hi.s0 b (h.s0 b hb),λb hb=>?_,λk hk=>LB k (gK k hk),h.g,h.nf⟩,hi.s0,λb hb=>Pu b (h.inv.heap.lt b hb) (hSn b hb),hsz,λk hk hn=>⟨Pu k hk hn,λe=>(gK k e).elim (λe=>ab) hn,λhs iM=>?_⟩⟩
 ·refine hi.below.trans (hb.mono λk hk=>?_)
  rcases hk with hk|hk
  ·exact .inl (ck hsz hk)
  ·exact gK k hk
 ·obtain⟨l,h1,h2⟩:=hi.heap.get id b hg;refine⟨l,h1,h2.pins (λhn=>.inr ⟨id,b,l,hg,h1,hn,rfl⟩) (h2.tagged)⟩
 ·rcases hi.s1 b hb with k|k
  ·exact h.s1 b k
  ·exact .inr (LB b k)
 ·rcases hi.s1 k iM with e|e
  ·exact hs e
  ·exact e.elim (λe=>ab) hn
theorem gR.less(h:gR X w0 S0 S ρ jZ st a w)(ht:∀i,cC bx.t i=.any\/cC bx.t i=cC st.t i)(hh:∀id b,aN bx.h id=some b->aN st.h id=some b):gR X w0 S0 S ρ jZ bx a w:=by
 have Fk:∀k,jc bx.h ρ k->jc st.h ρ k:=λk ⟨id,b,l,h1,h2⟩=>⟨id,b,l,hh id b h1,h2⟩
 refine⟨⟨h.inv.defers,h.inv.size,Fr.refl _ _,λk hk=>.inl hk,λ_ h=>h,λ_ h=>.inl h,λw' hb=>h.inv.g0 w' (hb.mono λk hk=>hk.imp id (Fk k)),λi=>?_,⟨λid b hg=>?_,λi j b b' l l' h1 h2=>h.inv.heap.inj i j b b' l l' (hh _ _ h1) (hh _ _ h2),h.inv.heap.lt⟩⟩,h.fr,h.s0,h.s1,λk hk=>h.own k (Fk k hk),h.g,h.nf⟩
 ·rcases ht i with e|e
  ·rw[e];exact .any _
  ·rw[e];exact h.inv.tmps i
 ·obtain⟨l,h1,h2⟩:=h.inv.heap.get id b (hh id b hg)
  refine⟨l,h1,h2.pins (λhn=>.inr ⟨id,b,l,hg,h1,hn,rfl⟩) (h2.tagged)⟩
theorem gR.done(h:gR X w0 S0 S ρ jZ st a w)(hp:∀id b,aN st.h id=some b->b.tag=0):bK X (From w0) S0 w0 st a w:=by
 refine⟨S,ρ,h.inv.defers,h.inv.size,h.fr,λk hk=>ck h.fr.size hk,h.s0,h.s1,h.g,h.inv.tmps,⟨λid b hg=>?_,h.inv.heap.inj,h.inv.heap.lt⟩⟩
 obtain⟨l,h1,h2⟩:=h.inv.heap.get id b hg;exact⟨l,h1,h2.pins (λhn=>h.own _ ⟨id,b,l,hg,h1,hn,rfl⟩) (.inl (hp id b hg))⟩
def tz(G:(Nat->Prop)->(Nat->Prop)->World->Prop):Prop:=∀(A A' S S':Nat->Prop) (w w':World),(∀b,S b->S' b)->(∀b,S b->w'.heap[b]?=w.heap[b]?)->w.heap.size<=w'.heap.size->(∀k,k<w.heap.size->A k->A' k/\w'.heap[k]?=w.heap[k]?)->G A S w->G A' S' w'
def apart(st:St U El)(ρ:eJ)(S:Nat->Prop)(k:Nat):Prop:=¬jc st.h ρ k/\¬S k
def mN(m:Nat)(sl ids:ah Nat)(st:St U El):Option (Fin U El):=some (.bP (.int .i64 m::sl.map (cC st.t)),rV st.h ids)
def nF:ah Nat->ah (AV U El)->eH U El
 |i::l,v::vs=>(i,v)::nF l vs
 |_,_=>[]
theorem J4(t:eH U El):∀(sl:ah Nat) (i:Nat),cC (nF sl (sl.map (cC t))) i=.any\/cC (nF sl (sl.map (cC t))) i=cC t i:=by
 intro sl;induction sl with
 |nil=>intro i;exact .inl rfl
 |cons j sl ih=>
  intro i;simp only[dx,nF,cC]
  by_cases e:j=i
  ·subst e;rw[aG];exact .inr rfl
  ·rw[aO e];exact ih i
theorem w_(h:bI U El):∀(ids:ah Nat) (id:Nat) (b:qm U El),aN (rV h ids) id=some b->aN h id=some b:=by
 intro ids;induction ids with
 |nil=>intro id b hg;cases hg
 |cons j ids ih=>
  intro id b hg;simp only[rV]at hg;cases hj:aN h j with
  |none=>rw[hj]at hg;exact ih id b hg
  |some c=>
   rw[hj]at hg;simp only[aN]at hg;by_cases e:j=id
   ·subst e;rw[aG]at hg;cases hg;exact hj
   ·rw[aO e]at hg;exact ih id b hg
theorem gR.cut(h:gR X w0 S0 S ρ jZ st a w){m:Nat}{sl ids:ah Nat}{vs:ah (AV U El)}{hs:bI U El}(he:mN m sl ids st=some (.bP (.int .i64 m::vs),hs)):gR X w0 S0 S ρ jZ ⟨nF sl vs,hs⟩ a w:=by unfold mN at he;simp only[bX,dw,AV.bP.injEq,kC,true_and]at he;obtain⟨rfl,rfl⟩:=he;exact h.less (J4 st.t sl) (w_ st.h ids)
theorem vb{hs:bI U El}{t:eH U El}(hh:∀id b,aN hs id=some b->aN st.h id=some b){k:Nat}(h:apart st ρ S k):apart (⟨t,hs⟩:St U El) ρ S k:=⟨λ⟨id,b,l,h1,h2⟩=>h.1 ⟨id,b,l,hh id b h1,h2⟩,h.2⟩
theorem gR.run(hX:bp P X)(hM:kZ P X){G:(Nat->Prop)->(Nat->Prop)->World->Prop}(mq:tz G){c:Code}{n:gb U}{Q:Exit->Act->World->Prop}{sl ids:ah Nat}{m:Nat}{vs:ah (AV U El)}{hs:bI U El}
 (h:gR X w0 S0 S ρ jZ st a w) (hG:G (apart st ρ S) S w)
 (de:exec X c n st (mN 0 sl ids) (λi=>mN (2*i+2) sl ids) (mN 1 sl ids)=some (.bP (.int .i64 m::vs),hs))
 (hQ:∀S' ρ' a' w',gR X w0 S0 S' ρ' jZ ⟨nF sl vs,hs⟩ a' w'->G (apart ⟨nF sl vs,hs⟩ ρ' S') S' w'->(m=0->Q .normal a' w')/\(m=1->Q .ret a' w')/\∀i,m=2*i+2->Q (.exit i) a' w'):c.wp P Q a w:=by
 have key:∀(m':Nat) bx a' w',bK X (tight w st.h ρ jZ) S w bx a' w'->mN m' sl ids bx=some (.bP (.int .i64 m::vs),hs)->m'=m/\∃S' ρ',gR X w0 S0 S' ρ' jZ ⟨nF sl vs,hs⟩ a' w'/\G (apart ⟨nF sl vs,hs⟩ ρ' S') S' w':=by
  intro m' bx a' w' iM he;obtain⟨S',ρ',h1,h2,h3,h4,h5⟩:=h.next iM;have hm:m'=m:=by
   unfold mN at he;simp only[bX,dw,AV.bP.injEq,kC,AV.int.injEq,true_and]at he;have:=he.1.1;omega
  subst hm;refine⟨rfl,S',ρ',h1.cut he,mq _ _ S S' w w' h2 h3 h4 (λk hk hA=>?_) hG⟩
  obtain⟨g1,g2,g3⟩:=h5 k hk hA.1;have hh:∀id b,aN hs id=some b->aN bx.h id=some b:=by
   unfold mN at he;simp only[bX,dw]at he;rw[<-he.2]
   exact w_ bx.h ids
  exact⟨vb (st:=bx) hh ⟨g2,g3 hA.2⟩,g1⟩
 refine mw h.nf hX hM c n st (mN 0 sl ids) (λi=>mN (2*i+2) sl ids) (mN 1 sl ids) a w Q (λbx a' w' h1 h2=>?_) (λi bx a' w' h1 h2=>?_) (λbx a' w' h1 h2=>?_) ⟨S,ρ,h.inv⟩ de
 ·obtain⟨e,S',ρ',k1,k2⟩:=key 0 bx a' w' h1 h2;exact(hQ S' ρ' a' w' k1 k2).1 e.symm
 ·obtain⟨e,S',ρ',k1,k2⟩:=key (2*i+2) bx a' w' h1 h2;exact(hQ S' ρ' a' w' k1 k2).2.2 i e.symm
 ·obtain⟨e,S',ρ',k1,k2⟩:=key 1 bx a' w' h1 h2;exact(hQ S' ρ' a' w' k1 k2).2.1 e.symm
theorem gR.ops(hX:bp P X)(hM:kZ P X){G:(Nat->Prop)->(Nat->Prop)->World->Prop}(mq:tz G){ops:Array Oper}{Q:Exit->Act->World->Prop}{sl ids:ah Nat}{vs:ah (AV U El)}{hs:bI U El}(tail os:ah Oper)(j:Nat)
 (h:gR X w0 S0 S ρ jZ st a w) (hG:G (apart st ρ S) S w) (hd:ops.toList.drop j=os++tail) (ug:∀o∈os,o.guard=none)
 (de:ju X [] os st (mN 0 sl ids)=some (.bP (.int .i64 0::vs),hs))
 (hQ:∀S' ρ' a' w',gR X w0 S0 S' ρ' jZ ⟨nF sl vs,hs⟩ a' w'->G (apart ⟨nF sl vs,hs⟩ ρ' S') S' w'->wpOps P ops Q (List.range' (j+os.length) tail.length) a' w'):wpOps P ops Q (List.range' j (os++tail).length) a w:=by
 refine FI hX hM tail os j st a w hd ug ⟨S,ρ,h.inv⟩ de λbx a' w' h1 h2=>?_
 obtain⟨S',ρ',k1,k2,k3,k4,k5⟩:=h.next h1;refine hQ S' ρ' a' w' (k1.cut h2) (mq _ _ S S' w w' k2 k3 k4 (λk hk hA=>?_) hG)
 obtain⟨g1,g2,g3⟩:=k5 k hk hA.1;have hh:∀id b,aN hs id=some b->aN bx.h id=some b:=by
  unfold mN at h2;simp only[bX,dw]at h2;rw[<-h2.2]
  exact w_ bx.h ids
 exact⟨vb (st:=bx) hh ⟨g2,g3 hA.2⟩,g1⟩
theorem Fu{ops:Array Oper}{Q:Exit->Act->World->Prop}{j:Nat}{o:Oper}{v:Value}{n:Nat}(ho:ops[j]?=some o)(hg:o.guard=none)(de:(execOp a.eval o).run P w=.ok (.value v) w')(h:wpOps P ops Q (List.range' (j+1) n) (a.put o.dst v) w'):wpOps P ops Q (List.range' j (n+1)) a w:=by
 rw[lJ,wpOps_cons]
 unfold wpOp;rw[ho]
 have hw:Region.wanted o (yielded ops a.tmps)=true:=by simp[Region.wanted,hg]
 simp only[hw,if_true]
 refine .inl ?_;unfold Oper.wp;rw[de]
 exact h
theorem gR.world(h:gR X w0 S0 S ρ jZ st a w)(gT:∀k,(S k\/jc st.h ρ k)->w'.heap[k]?=w.heap[k]?)(sq:Fr (From w0) w w'):gR X w0 S0 S ρ jZ st a w':=by
 have f:=h.fr.trans sq;refine⟨⟨h.inv.defers,h.inv.size,Fr.refl _ _,λk hk=>.inl hk,λ_ h=>h,λ_ h=>.inl h,λw2 hb=>h.g w2 (f.trans (hb.mono λk hk=>hk.elim (λe=>ck f.size e) (h.own k))),λi=>(h.inv.tmps i).mono (λ_ h=>h) (λb hb=>gT b (.inl hb)) (λ_ _ h=>h),⟨λid b hg=>?_,h.inv.heap.inj,λb hb=>fk (h.inv.heap.lt b hb) sq.size⟩⟩,f,h.s0,h.s1,h.own,h.g,h.nf⟩
 obtain⟨l,h1,h2⟩:=h.inv.heap.get id b hg;refine⟨l,h1,(h2.mono (λ_ h=>h) (λb hb=>gT b (.inl hb)) (λ_ _ h=>h) λhn=>⟨gT _ (.inr ⟨id,b,l,hg,h1,hn,rfl⟩),(h2.lt hn).2.2⟩).pins (λhn=>.inr ⟨id,b,l,hg,h1,hn,rfl⟩) (h2.tagged)⟩
def yh(J:Nat):bI U El->Bool
 |[]=>true
 |(_,b)::h=>(Nat.beq b.tag 0|| !Nat.beq b.tag J)&&yh J h
theorem Fz{J:Nat}:∀{h:bI U El} {id:Nat} {b:qm U El},yh J h=true->aN h id=some b->b.tag=0\/b.tag≠J:=by
 intro h;induction h with
 |nil=>intro id b _ hg;cases hg
 |cons p h ih=>
  intro id b hf hg;obtain⟨j,b'⟩:=p;simp only[aN]at hg;simp only[yh,aj,eX,cF]at hf;cases e:Nat.beq j id with
  |true=>
   rw[e]at hg;cases hg;refine hf.1.imp al λh1 e=>?_
   rw[e,aG]at h1;cases h1
  |false=>
   rw[e]at hg;exact ih hf.2 hg
theorem gR.on(hX:bp P X)(hM:kZ P X){G:(Nat->Prop)->(Nat->Prop)->World->Prop}(mq:tz G){c c1 c2:Code}{n:gb U}{Q:Exit->Act->World->Prop}{sl ids:ah Nat}{vs:ah (AV U El)}{hs:bI U El}
 (e:c=.seq c1 c2) (h:gR X w0 S0 S ρ jZ st a w) (hG:G (apart st ρ S) S w) (de:exec X c1 n st (mN 0 sl ids) (λi=>mN (2*i+2) sl ids) (mN 1 sl ids)=some (.bP (.int .i64 (0:Nat)::vs),hs))
 (hQ:∀S' ρ' a' w',gR X w0 S0 S' ρ' jZ ⟨nF sl vs,hs⟩ a' w'->G (apart ⟨nF sl vs,hs⟩ ρ' S') S' w'->c2.wp P Q a' w'):c.wp P Q a w:=by
 rw[e]
 exact wp_seq (gR.run hX hM mq h hG de λS' ρ' a' w' k1 k2=>⟨λ_=>hQ S' ρ' a' w' k1 k2,λe=>ab,λi e=>ab⟩)
theorem gR.back(hX:bp P X)(hM:kZ P X){G:(Nat->Prop)->(Nat->Prop)->World->Prop}(mq:tz G){c:Code}{n:gb U}{Q:Exit->Act->World->Prop}{sl ids:ah Nat}{vs:ah (AV U El)}{hs:bI U El}
 (h:gR X w0 S0 S ρ jZ st a w) (hG:G (apart st ρ S) S w) (de:exec X c n st (mN 0 sl ids) (λi=>mN (2*i+2) sl ids) (mN 1 sl ids)=some (.bP (.int .i64 (1:Nat)::vs),hs))
 (hQ:∀S' ρ' a' w',gR X w0 S0 S' ρ' jZ ⟨nF sl vs,hs⟩ a' w'->Q .ret a' w'):c.wp P Q a w:=
 gR.run hX hM mq h hG de λS' ρ' a' w' k1 k2=>⟨λe=>ab,λ_=>hQ S' ρ' a' w' k1,λi e=>ab⟩
theorem gR.out(hX:bp P X)(hM:kZ P X){G:(Nat->Prop)->(Nat->Prop)->World->Prop}(mq:tz G){c:Code}{n:gb U}{Q:Exit->Act->World->Prop}{sl ids:ah Nat}{vs:ah (AV U El)}{hs:bI U El}(i:Nat)
 (h:gR X w0 S0 S ρ jZ st a w) (hG:G (apart st ρ S) S w) (de:exec X c n st (mN 0 sl ids) (λi=>mN (2*i+2) sl ids) (mN 1 sl ids)=some (.bP (.int .i64 ((2*i+2:Nat):Int)::vs),hs))
 (hQ:∀S' ρ' a' w',gR X w0 S0 S' ρ' jZ ⟨nF sl vs,hs⟩ a' w'->G (apart ⟨nF sl vs,hs⟩ ρ' S') S' w'->Q (.exit i) a' w'):c.wp P Q a w:=
 gR.run hX hM mq h hG de λS' ρ' a' w' k1 k2=>⟨λe=>ab,λe=>ab,λj e=>(show i=j by omega)▸hQ S' ρ' a' w' k1 k2⟩
theorem gR.US(hX:bp P X)(hM:kZ P X){G:(Nat->Prop)->(Nat->Prop)->World->Prop}(mq:tz G){c:Code}{n:gb U}{Q:Exit->Act->World->Prop}{sl ids:ah Nat}{vs:ah (AV U El)}{hs:bI U El}
 (h:gR X w0 S0 S ρ jZ st a w) (hG:G (apart st ρ S) S w) (de:exec X c n st (mN 0 sl ids) (λi=>mN (2*i+2) sl ids) (mN 1 sl ids)=some (.bP (.int .i64 (0:Nat)::vs),hs))
 (hQ:∀S' ρ' a' w',gR X w0 S0 S' ρ' jZ ⟨nF sl vs,hs⟩ a' w'->G (apart ⟨nF sl vs,hs⟩ ρ' S') S' w'->Q .normal a' w'):c.wp P Q a w:=
 gR.run hX hM mq h hG de λS' ρ' a' w' k1 k2=>⟨λ_=>hQ S' ρ' a' w' k1 k2,λe=>ab,λi e=>ab⟩
end
end Go.Proofs.YtfmamkmmohilgaaGreatDoor
namespace Go.Proofs.YtfmamkmmohilgaaGreatDoor
open Go.Proofs.Tryz IntKind
set_option linter.all false
set_option maxRecDepth 100000
open Go.RowKit
noncomputable section
def GY(es:ah j9)(k j:Nat):ah Int:=((List.range k).filter λm=>(es.getD m fi).p0==(j:Int)).map Int.ofNat
def LW(N:Nat)(es:ah j9):ah (ah Int):=(List.range N).map (GY es es.length)
theorem Mz(es:ah j9)(k j:Nat):GY es (k+1) j=if(es.getD k fi).p0=(j:Int)then GY es k j++[(k:Int)]else GY es k j:=by
 unfold GY;rw[List.range_succ,List.filter_append,oP]
 by_cases h:(es.getD k fi).p0=(j:Int)
 ·have hb:((es.getD k fi).p0==(j:Int))=true:=by rw[h];exact beq_self_eq_true _
  rw[if_pos h];simp only[List.filter,hb];rfl
 ·have hb:((es.getD k fi).p0==(j:Int))=false:=beq_eq_false_iff_ne.2 h;rw[if_neg h];simp only[List.filter,hb,jf,cU]
theorem OM(es:ah j9)(k j:Nat):(GY es k j).length<=k:=by
 have:=List.length_filter_le (λm=>(es.getD m fi).p0==(j:Int)) (List.range k)
 simpa[GY]using this
namespace ur
variable(es:ah j9)(i:Nat)
def bd:Code:=(f170.body).getD .skip
def X:Ctx U El:=dp [Lb.c] 40
theorem ok:bp prog X:=fV lq (ss _) pD
theorem jE:kZ prog X:=λg sp h=>by cases h
abbrev ex(p:ah Nat)(n:gb U)(st:St U El)(sl ids:ah Nat):R:=exec X (oM p bd) n st (mN 0 sl ids) (λi=>mN (2*i+2) sl ids) (mN 1 sl ids)
abbrev res(m:Nat)(vs:ah (AV U El))(hs:bI U El):R:=some (.bP (.int .i64 (m:Int)::vs),hs)
def opsOf:Code->Array Oper|.region _ ops _=>ops|_=>#[]
abbrev lb:ah Nat:=[1,1,1,0,1,0,0]
abbrev bb:ah Nat:=lb++[1,1,0,0]
abbrev s0:ah Nat:=[4,5,18,19,20]
abbrev d0:ah Nat:=[15000,4000]
abbrev v0:ah (AV U El):=[.cf 4000,.cf 15000,.cf 15000,.int .i64 (Int.ofNat es.length),.int .i64 (i:Int)]
abbrev h0:bI U El:=[(15000,.rows .pair es),(4000,.box 4000 [])]
def F0:St U El:=⟨nF s0 (v0 es i),h0 es⟩
def F1(b:Bool):St U El:=⟨nF (s0++[21]) (v0 es i++[.bool b]),h0 es⟩
abbrev s5:ah Nat:=s0++[7,8]
abbrev d5:ah Nat:=d0++[8]
abbrev v5:ah (AV U El):=v0 es i++[.int .i64 (i:Int),.ptr 8 0]
abbrev h5:bI U El:=h0 es++[(8,.box 0 [.int .i64 (es.getD i fi).p0,.int .i64 (es.getD i fi).p1])]
def F5:St U El:=⟨nF s5 (v5 es i),h5 es i⟩
theorem e4:ex (lb++[0]) .d (F0 es i) (s0++[21]) d0=res 0 (v0 es i++[.bool (bz (i:Int) (Int.ofNat es.length))]) (h0 es):=aa
theorem e4t:ex (lb++[1,0]) .d (F1 es i true) s0 d0=res 0 (v0 es i) (h0 es):=aa
theorem e4f:ex (lb++[1,0]) .d (F1 es i false) s0 d0=res 2 (v0 es i) (h0 es):=aa
theorem e5:ex (bb++[0]) .d (F0 es i) s5 d5=aU (dV (i:Int) es.length) (aU (lU i es.length) (res 0 (v5 es i) (h5 es i))):=aa
theorem e7:ex (lb++[1,1,1]) .d (F0 es i) s0 d0=res 0 [.cf 4000,.cf 15000,.cf 15000,.int .i64 (Int.ofNat es.length),.int .i64 (i64.wrap ((i:Int)+1))] (h0 es):=aa
def C9(own:Nat)(A:Nat->Prop)(w:World)(bi b:Nat)(l:ah Int)(v:Value):Prop:=(l=[]/\v=.slice none 0 0)\/(l≠[]/\b≠bi/\A b/\own<=b/\∃(cap:Nat) (cs:Array Value),v=.slice (some ⟨b,0,none⟩) l.length cap/\w.heap[b]?=some (.cells cs 3 (0,0))/\l.length<=cap/\cap<=cs.size/\∀(i:Nat) (x:Int),l[i]?=some x->cs[i]?=some (.int .i64 x))
def Ix(own N bi:Nat)(L:Nat->ah Int)(A:Nat->Prop)(w:World):Prop:=0<N->A bi/\own<=bi/\∃(c:Array Value) (bl:Nat->Nat),w.heap[bi]?=some (.cells c 28 (0,0))/\(∀j k,j<N->k<N->L j≠[]->L k≠[]->bl j=bl k->j=k)/\∀j,j<N->∃v,c[j]?=some v/\C9 own A w bi (bl j) (L j) v
theorem C9.Jg{own:Nat}{A A':Nat->Prop}{w w':World}{bi b:Nat}{l:ah Int}{v:Value}(h:C9 own A w bi b l v)(hk:l≠[]->b<w.heap.size->A b->A' b/\w'.heap[b]?=w.heap[b]?):C9 own A' w' bi b l v:=by
 rcases h with h|⟨h1,h2,h3,h4,cap,cs,h5,h6,h7⟩
 ·exact .inl h
 ·obtain⟨k1,k2⟩:=hk h1 (aX.1 h6).1 h3;exact .inr ⟨h1,h2,k1,h4,cap,cs,h5,k2.trans h6,h7⟩
theorem Ix.pk(own N bi:Nat)(L:Nat->ah Int):tz (λA _ w=>Ix own N bi L A w):=by
 intro A A' S S' w w' _ _ _ hk h hN;obtain⟨h1,h2,c,bl,h3,h4,h5⟩:=h hN;obtain⟨k1,k2⟩:=hk bi (aX.1 h3).1 h1;refine⟨k1,h2,c,bl,k2.trans h3,h4,λj hj=>?_⟩
 obtain⟨v,g1,g2⟩:=h5 j hj;exact⟨v,g1,g2.Jg λ_ hb hA=>hk _ hb hA⟩
end ur
namespace ur
theorem JD{a:Act}{d:Nat}{v:Value}(h:d<a.tmps.size):(a.put (some d) v).eval (.tmp d)=v:=by simp[Act.put,Act.eval,Array.getD,h]
theorem Oz{a:Act}{d t:Nat}{v:Value}(h:d≠t):(a.put (some d) v).eval (.tmp t)=a.eval (.tmp t):=by simp only[Act.put,Act.eval,aH,Array.getElem?_setIfInBounds,if_neg h]
theorem KW{a:Act}{d:Option Nat}{v:Value}:(a.put d v).tmps.size=a.tmps.size:=by cases d<;>simp[Act.put]
theorem put_defers{a:Act}{d:Option Nat}{v:Value}:(a.put d v).defers=a.defers:=by cases d<;>rfl
def YR:Oper:=⟨none,.move (.const undef),0,"",#[],none⟩
def o6:Array Oper:=opsOf (oM (bb++[1]) bd)
def M(k:Nat):Oper:=(o6[k]?).getD YR
structure Fg (k:Nat) (op:Op) (d:Option Nat):Prop where
 at_:o6[k]?=some (M k)
 F8:(M k).op=op
 dst:(M k).dst=d
 g:(M k).guard=none
theorem m0:Fg 0 (.move (.tmp 4)) (some 25):=⟨aa,aa,aa,aa⟩
theorem m1:Fg 1 (.indexAddr 242 (.tmp 8) (.const (.int .i64 0))) (some 26):=⟨aa,aa,aa,aa⟩
theorem m2:Fg 2 (.load 3 (.tmp 26)) (some 27):=⟨aa,aa,aa,aa⟩
theorem m3:Fg 3 (.move (.tmp 4)) (some 28):=⟨aa,aa,aa,aa⟩
theorem m4:Fg 4 (.indexAddr 242 (.tmp 8) (.const (.int .i64 0))) (some 29):=⟨aa,aa,aa,aa⟩
theorem m5:Fg 5 (.load 3 (.tmp 29)) (some 30):=⟨aa,aa,aa,aa⟩
theorem m6:Fg 6 (.indexAddr 238 (.tmp 28) (.tmp 30)) (some 31):=⟨aa,aa,aa,aa⟩
theorem m7:Fg 7 (.load 28 (.tmp 31)) (some 32):=⟨aa,aa,aa,aa⟩
theorem m8:Fg 8 (.move (.tmp 7)) (some 33):=⟨aa,aa,aa,aa⟩
theorem m9:Fg 9 (.buildSlice 28 1 #[(0,.tmp 33)]) (some 34):=⟨aa,aa,aa,aa⟩
theorem m10:Fg 10 (.call ⟨.builtin .append,#[.tmp 32,.tmp 34],#[28,28]⟩) (some 35):=⟨aa,aa,aa,aa⟩
theorem m11:Fg 11 (.indexAddr 238 (.tmp 25) (.tmp 27)) (some 36):=⟨aa,aa,aa,aa⟩
theorem m12:Fg 12 (.store 28 (.tmp 36) (.tmp 35)) none:=⟨aa,aa,aa,aa⟩
def lm(m:Nat):Array Bool:=((List.range 13).map (Nat.testBit m)).toArray
structure Nx (a a':Act) (d:Nat) (v:Value):Prop where
 at_:a'.eval (.tmp d)=v
 ne:∀t:Nat,d≠t->a'.eval (.tmp t)=a.eval (.tmp t)
 sz:a'.tmps.size=a.tmps.size
 df:a'.defers=a.defers
theorem Nx.mk'{a:Act}{d:Nat}{v:Value}(h:d<a.tmps.size):Nx a (a.put (some d) v) d v:=⟨JD h,λt e=>Oz e,KW,put_defers⟩
def nq(Q:Act->World->Prop):Exit->Act->World->Prop
 |.normal,a,w=>Q a w
 |_,_,_=>False
theorem wanted{k:Nat}{op:Op}{d:Option Nat}(h:Fg k op d)(a:Act):Region.wanted (M k) (yielded o6 a.tmps)=true:=by simp[Region.wanted,h.g]
theorem xz{Q:Act->World->Prop}{S:World->Prop}(m m' i:Nat){op:Op}{d fuel:Nat}{v:Value}{a:Act}{w:World}(hm:Fg i op (some d))(hf:Region.free .any o6 (lm m) i=true)(hs:Region.noSelect o6=true)(hr:(Region.ready .any o6 (lm m)).contains i=true)
 (hl:(lm m).setIfInBounds i true=lm m') (hd:d<a.tmps.size) (hS:S w) (de:∀w,S w->(execOp a.eval (M i)).run prog w=.ok (.value v) w)
 (h:∀a',Nx a a' d v->wpAnyH prog .any o6 (nq Q) S fuel (lm m') a' w):wpAnyH prog .any o6 (nq Q) S (fuel+1) (lm m) a w:=by
 refine wpAnyH_take (i:=i) (oi:=M i) (v:=v) hm.at_ hs hf hr (λ_ _ _ h=>h.elim) (.inl ⟨wanted hm a,de⟩) hS ?_;rw[hl,hm.dst]
 exact h _ (.mk' hd)
theorem turn{K:Act->World->Prop}{Q:Act->World->Prop}{k:Nat}{op:Op}{d:Nat}{v:Value}{a:Act}{w w':World}(hm:Fg k op (some d))(hd:d<a.tmps.size)(de:(execOp a.eval (M k)).run prog w=.ok (.value v) w')(h:∀a',Nx a a' d v->K a' w'):wpOp prog o6 (nq Q) k K a w:=by
 unfold wpOp;rw[hm.at_]
 simp only[wanted hm a,if_true]
 refine .inl ?_;unfold Oper.wp;rw[de]
 show K (a.put (M k).dst v) w';rw[hm.dst]
 exact h _ (.mk' hd)
theorem Sg{K:Act->World->Prop}{Q:Act->World->Prop}{k:Nat}{op:Op}{a:Act}{w w':World}(hm:Fg k op none)(de:(execOp a.eval (M k)).run prog w=.ok .skip w')(h:K a w'):wpOp prog o6 (nq Q) k K a w:=by
 unfold wpOp;rw[hm.at_]
 simp only[wanted hm a,if_true]
 refine .inl ?_;unfold Oper.wp;rw[de]
 show K (a.put (M k).dst undef) w';rw[hm.dst]
 exact h
theorem DV{Q:Act->World->Prop}{S:World->Prop}(m m' k:Nat){fuel:Nat}{a:Act}{w:World}(hr:Region.ready .any o6 (lm m)=[k])(hl:(lm m).setIfInBounds k true=lm m')
 (h:wpOp prog o6 (nq Q) k (λa' w'=>S w'/\wpAnyH prog .any o6 (nq Q) S fuel (lm m') a' w') a w):wpAnyH prog .any o6 (nq Q) S (fuel+1) (lm m) a w:=
 wpAnyH_all hr ae λi hi=>by
  obtain rfl:=cz.1 hi;rw[hl]
  exact h
theorem V5{Q:Act->World->Prop}{S:World->Prop}(m k1 k2 m1 m2:Nat){fuel:Nat}{a:Act}{w:World}(hr:Region.ready .any o6 (lm m)=[k1,k2])(Db:(lm m).setIfInBounds k1 true=lm m1)(qx:(lm m).setIfInBounds k2 true=lm m2)
 (h1:wpOp prog o6 (nq Q) k1 (λa' w'=>S w'/\wpAnyH prog .any o6 (nq Q) S fuel (lm m1) a' w') a w) (h2:wpOp prog o6 (nq Q) k2 (λa' w'=>S w'/\wpAnyH prog .any o6 (nq Q) S fuel (lm m2) a' w') a w):wpAnyH prog .any o6 (nq Q) S (fuel+1) (lm m) a w:=
 wpAnyH_all hr ae λi hi=>by
  rcases bN.1 hi with rfl|hi
  ·rw[Db];exact h1
  ·obtain rfl:=cz.1 hi;rw[qx];exact h2
theorem FG{ev:Operand->Value}{o:Oper}{x:Operand}{w:World}(ho:o.op=.move x):(execOp ev o).run prog w=.ok (.value (ev x)) w:=by simp[execOp,ho]
theorem Hl{a:Act}{o:Oper}{x b:Nat}{w:World}(ho:o.op=.indexAddr 242 (.tmp x) (.const (.int .i64 0)))(h1:a.eval (.tmp x)=.pointer (some ⟨b,0,none⟩)):(execOp a.eval o).run prog w=.ok (.value (.pointer (some ⟨b,0,none⟩))) w:=by obtain⟨inf,z,hi,hsz,_⟩:=ok.u.info .int;have hu:prog.underlying 242=some (.array 2 3):=underlying242;have ku:prog.info? 3=some inf:=hi;have h2:a.eval (.const (.int .i64 0))=.int .i64 0:=rfl;simp[execOp,ho,Instr.indexAt,asIntOf,h2,run_underlying hu,Instr.sureAddr,h1,kT ku,gV]
theorem Hk{a:Act}{o:Oper}{x y b j len cap:Nat}{w:World}(ho:o.op=.indexAddr 238 (.tmp x) (.tmp y))(h1:a.eval (.tmp x)=.slice (some ⟨b,0,none⟩) len cap)(h2:a.eval (.tmp y)=.int .i64 (j:Int))(hl:j<len):(execOp a.eval o).run prog w=.ok (.value (.pointer (some ⟨b,j,none⟩))) w:=by
 have h0:(0:Int)<=(j:Int):=ab
 have dq:(j:Int)<(len:Int):=ab
 obtain⟨inf,z,hi,hsz,_⟩:=ok.u.info .ints;have hu:prog.underlying 238=some (.slice 28):=underlying238;have WK:inf.size=1:=hsz;have ku:prog.info? 28=some inf:=hi;simp[execOp,ho,Instr.indexAt,asIntOf,h2,run_underlying hu,h1,h0,hl,dq,kT ku,WK,gV]
theorem Hj{a:Act}{o:Oper}{x b k:Nat}{v:Value}{w:World}(ho:o.op=.load 3 (.tmp x))(h1:a.eval (.tmp x)=.pointer (some ⟨b,k,none⟩))(hc:w.cell? ⟨b,k,none⟩=some v):(execOp a.eval o).run prog w=.ok (.value v) w:=by simp[execOp,ho,Instr.loadAt,Instr.sureAddr,h1,loadVar,isAgg3,hc]
theorem Hh{a:Act}{o:Oper}{x b k:Nat}{v:Value}{w:World}(ho:o.op=.load 28 (.tmp x))(h1:a.eval (.tmp x)=.pointer (some ⟨b,k,none⟩))(hc:w.cell? ⟨b,k,none⟩=some v):(execOp a.eval o).run prog w=.ok (.value v) w:=by simp[execOp,ho,Instr.loadAt,Instr.sureAddr,h1,loadVar,isAgg28,hc]
theorem KM{a:Act}{o:Oper}{x:Nat}{n:Int}{w:World}(ho:o.op=.buildSlice 28 1 #[(0,.tmp x)])(h1:a.eval (.tmp x)=.int .i64 n):(execOp a.eval o).run prog w=.ok (.value (.slice (some ⟨w.heap.size,0,none⟩) 1 1)) (w.alloc (.cells #[.int .i64 n] 3)):=by
 obtain⟨inf,z,hi,hsz,_,hz,yq,_⟩:=ok.u.info .int;have hu:prog.underlying 28=some (.slice 3):=underlying28;have ku:prog.info? 3=some inf:=hi;have QD:inf.size=1:=hsz;have de:=run_buildSlice (P:=prog) w 28 3 1 (#[(0,.tmp x)].map λ(i,x)=>(i,a.eval x)) #[.int .i64 n] inf z hu ku hz (by rw[QD];decide) (by rw[QD];decide) (by
  rw[QD,show Array.range (1*1)=#[0] by decide]
  simp[Instr.fill,h1,Value.cells])
 simp only[execOp,ho,Sem.run_bind,de,Result.andThen_ok,Sem.run_pure]
theorem Nw{a:Act}{o:Oper}{x y b off:Nat}{cur:Array Value}{e:TypeId}{w:World}{v:Value}(ho:o.op=.store 28 (.tmp x) (.tmp y))(h1:a.eval (.tmp x)=.pointer (some ⟨b,off,none⟩))(h2:a.eval (.tmp y)=v)(pz:v.cells=#[v])(Og:v.oneCell'=true)(hh:w.heap[b]?=some (.cells cur e (0,0)))(hle:off+1<=cur.size):
 (execOp a.eval o).run prog w=.ok .skip (w.setRow b (cur.toList.take off++[v]++cur.toList.drop (off+1)).toArray):=by
 have mq:=run_storeCells_at prog b off e v.cells.toList 0 cur w hh (by simp[pz];omega) (by rw[pz];simpa using Og)
 simp only[gg,pz]at mq;have CG:(storeCells ⟨b,off,none⟩ [v]).run prog w=.ok () (w.setRow b (cur.toList.take off++[v]++cur.toList.drop (off+1)).toArray):=by simpa using mq
 simp[execOp,ho,Instr.storeAt,Instr.sureAddr,h1,h2,storeVar,sizeOf28,pz]
 rw[CG]
 simp
theorem JL{cur:Array Value}{off:Nat}{v:Value}(h:off<cur.size):(cur.toList.take off++[v]++cur.toList.drop (off+1)).toArray.size=cur.size/\
 (cur.toList.take off++[v]++cur.toList.drop (off+1)).toArray[off]?=some v/\∀j,j≠off->(cur.toList.take off++[v]++cur.toList.drop (off+1)).toArray[j]?=cur[j]?:=by
 have hl:(cur.toList.take off).length=off:=by simp;omega
 refine⟨by simp;omega,?_,λj hj=>?_⟩
 ·rw[cZ,mI _ _ _ off hl.symm,if_neg ab,if_pos ae]
  simp
 ·rw[cZ,mI _ _ _ off hl.symm]
  by_cases h1:j<off
  ·rw[if_pos h1,cd h1];simp
  ·rw[if_neg h1,if_neg (by simp;omega),cg]
   simp only[List.length_singleton]
   rw[show off+1+(j-(off+1))=j by omega]
   simp
theorem qj{w:World}{b o:Nat}{c:Array Value}{e:TypeId}(h:w.heap[b]?=some (.cells c e (0,0))):w.cell? ⟨b,o,none⟩=c[o]?:=by simp[World.cell?,h]
end ur
namespace ur
variable(es:ah j9)(i:Nat)
theorem ym{S:Nat->Prop}{ρ:eJ}{w:World}{k:IntKind}{n:Int}{v:Value}(h:Rel E S ρ w (.int k n) v):v=.int k n:=by cases h;rfl
theorem VR(x:Int):E.enc .int x=[.int .i64 x]:=rfl
theorem Ym{own bi b nb:Nat}{l:ah Int}{A SS:Nat->Prop}{w:World}{v:Value}{n:Int}{ot:TypeId}(Ef:C9 own A w bi b l v)(Xd:w.heap[nb]?=some (.cells #[.int .i64 n] 3 (0,0)))
 (hA:∀k,w.heap.size<=k->A k) (gK:own<=w.heap.size) (Uu:bi<w.heap.size) (hS:∀k,A k->¬SS k) (Q5:∀b,SS b->b<w.heap.size) (hlen:l.length<=90000):
 ∃v' w' b',(Builtin.append_ #[28,28] ot #[v,.slice (some ⟨nb,0,none⟩) 1 1]).run prog w=.ok v' w'/\w'.os=w.os/\w'.tape=w.tape/\w'.output=w.output/\w.heap.size<=w'.heap.size/\
  (∀k,k<w.heap.size->¬(l≠[]/\k=b)->w'.heap[k]?=w.heap[k]?)/\((l≠[]/\b'=b)\/w.heap.size<=b')/\C9 own A w' bi b' (l++[n]) v'/\v'.cells=#[v']/\v'.oneCell'=true:=by
 have hs:∃nN,((v=.slice none 0 0/\l=[]/\nN=none)\/∃lc cap,v=.slice (some ⟨lc.b,0,none⟩) l.length cap/\nN=(if lc.n=0 then none else some lc.b)/\cap*X.E.sz .int<=lc.n/\l.length<=cap/\dt X.E SS (λ_=>none) w ⟨λk=>own<=k,λ_=>none,[]⟩ lc (.rows .int l))/\∀k,some k=nN->l≠[]/\k=b:=by
  rcases Ef with⟨h1,h2⟩|⟨h1,h2,h3,h4,cap,cs,h5,h6,h7,h8,h9⟩
  ·exact⟨none,.inl ⟨h2,h1,rfl⟩,λk e=>by cases e⟩
  ·have hpos:=List.length_pos_iff.2 h1;refine⟨some b,.inr ⟨⟨b,cs.size,1,l.length⟩,cap,h5,(if_neg (show¬cs.size=0 by omega)).symm,(show cap*1<=cs.size by omega),h7,rfl,rfl,(show l.length*1<=cs.size by omega),λ_=>⟨h4,hS _ h3,cs,h6,rfl,λi x q c hx hq=>?_⟩⟩,λk e=>⟨h1,ez e⟩⟩
   have Bm:([.int .i64 x]:ah (AV U El))[q]?=some c:=hq;match q,Bm with
   |0,Bm=>
    cases Bm;exact⟨.int .i64 x,by show cs[i*1+0]?=_;rw[mD];exact h9 i x hx,.int _ _⟩
 obtain⟨nN,hs,hold⟩:=hs;have hu:prog.underlying 28=some (.slice (X.E.tid .int)):=underlying28
 obtain⟨v',w',l',de,r⟩:=Ax (ot:=ot) (X:=X) (P:=prog) (S:=SS) (ρ:=λ_=>none) (w:=w) (B:=⟨λk=>own<=k,λ_=>none,[]⟩) (u:=.int) (xs:=l) (ys:=[n]) (ao:=some ⟨nb,0,none⟩) (cp:=1) ok (λk hk=>ck gK hk) Q5 hu hs rfl (λ_=>⟨_,rfl,λi y q c hy hq=>by
  have Vq:([n]:ah Int)[i]?=some y:=hy;have Bm:([.int .i64 y]:ah (AV U El))[q]?=some c:=hq;match i,q,Vq,Bm with
  |0,0,Vq,Bm=>
   cases Vq;cases Bm;refine⟨.int .i64 n,?_,.int _ _⟩
   show w.cell? (Addr.add ⟨nb,0,none⟩ (0*1+0))=_;rw[gV,qj Xd]
   rfl⟩) (by show(l.length+1)*8<=_;omega) (by show l.length+1<=_;omega)
 have hb:=r.blk (λ_=>none)
 obtain⟨b1,b2,b3,b4⟩:=hb;have PB:l'.ln=(l++[n]).length:=b2;have Rp:l'.s=1:=b1;have b3':(l++[n]).length*1<=l'.n:=b3;have Db:(l++[n]).length=l.length+1:=ae
 have hn:l'.n≠0:=ab
 obtain⟨b5,b6,cs,b7,b8,b9⟩:=b4 hn;have Uw:(l≠[]/\l'.b=b)\/w.heap.size<=l'.b:=(r.at_ hn).imp (λe=>hold _ e) id;rcases r.val with⟨cap,e1,e2,e3⟩|⟨_,e2,e3⟩
 ·refine⟨v',w',l'.b,de,r.os,r.tape,r.output,r.size,λk hk gn=>r.block k hk λe=>gn (hold k e),Uw,.inr ⟨ae,?_,?_,b5,cap,cs,?_,b7,?_,?_,λi x hx=>?_⟩,by rw[e1];rfl,by rw[e1];rfl⟩
  ·rcases Uw with⟨h1,h2⟩|h1
   ·rcases Ef with⟨h3,_⟩|⟨_,h3,_⟩
    ·exact absurd h3 h1
    ·rw[h2];exact h3
   ·omega
  ·rcases Uw with⟨h1,h2⟩|h1
   ·rcases Ef with⟨h3,_⟩|⟨_,_,h3,_⟩
    ·exact absurd h3 h1
    ·rw[h2];exact h3
   ·exact hA _ h1
  ·rw[e1,PB]
  ·rw[<-PB];exact e3
  ·rw[b8];rw[Rp]at e2;omega
  ·obtain⟨u,u1,u2⟩:=b9 i x 0 (.int .i64 x) hx rfl;have V3:cs[i*1+0]?=some u:=u1;rw[mD]at V3;rw[ym u2]at V3;exact V3
 ·omega
set_option maxHeartbeats 1000000 in
theorem Sl{Q:Act->World->Prop}{own N bi j cap nb:Nat}{L:Nat->ah Int}{A SS:Nat->Prop}{S:World->Prop}{a:Act}{w:World}{n:Int}
 (hix:Ix own N bi L A w) (hj:j<N) (hsz:a.tmps.size=40) (h25:a.eval (.tmp 25)=.slice (some ⟨bi,0,none⟩) N cap) (h27:a.eval (.tmp 27)=.int .i64 (j:Int)) (h34:a.eval (.tmp 34)=.slice (some ⟨nb,0,none⟩) 1 1)
 (ZL:w.cell? ⟨bi,j,none⟩=some (a.eval (.tmp 32))) (Xd:w.heap[nb]?=some (.cells #[.int .i64 n] 3 (0,0)))
 (hA:∀k,w.heap.size<=k->A k) (gK:own<=w.heap.size) (hS:∀k,A k->¬SS k) (Q5:∀b,SS b->b<w.heap.size) (hlen:(L j).length<=90000)
 (Om:∀w':World,(∀k,k<w.heap.size->¬A k->w'.heap[k]?=w.heap[k]?)->S w')
 (hQ:∀a' w',(∀t:Nat,t<25->a'.eval (.tmp t)=a.eval (.tmp t))->a'.tmps.size=40->a'.defers=a.defers->w'.os=w.os->w'.tape=w.tape->w'.output=w.output->w.heap.size<=w'.heap.size->
  (∀k,k<w.heap.size->¬(A k/\own<=k)->w'.heap[k]?=w.heap[k]?)->Ix own N bi (λk=>if k=j then L k++[n]else L k) A w'->Q a' w'):wpAnyH prog .any o6 (nq Q) S 3 (lm 1023) a w:=by
 obtain⟨ZI,Zn,c,bl,hc,LJ,oE⟩:=hix ab
 have Uu:=(aX.1 hc).1;obtain⟨v,hv,Ef⟩:=oE j hj;have e32:a.eval (.tmp 32)=v:=by
  rw[qj hc,hv]at ZL;exact(ez ZL).symm
 obtain⟨v',w',b',de,r1,r2,r3,r4,r5,r6,r7,r8,r9⟩:=Ym (ot:=(M 10).type) Ef Xd hA gK Uu hS Q5 hlen;have hold:∀k,(L j≠[]/\k=bl j)->A k/\own<=k/\k≠bi:=λk ⟨h1,h2⟩=>by
  rcases Ef with⟨h3,_⟩|⟨_,h3,h4,h5,_⟩
  ·exact absurd h3 h1
  ·rw[h2];exact⟨h4,h5,h3⟩
 have wE:w'.heap[bi]?=some (.cells c 28 (0,0)):=(r5 bi Uu λe=>(hold bi e).2.2 rfl).trans hc;have uf:j<c.size:=(aX.1 hv).1;obtain⟨nc1,_s,_r⟩:=JL (v:=v') uf;obtain⟨w3,hw3⟩:∃w3,w3=w'.setRow bi (c.toList.take j++[v']++c.toList.drop (j+1)).toArray:=⟨_,rfl⟩
 have WA:w3.heap[bi]?=some (.cells (c.toList.take j++[v']++c.toList.drop (j+1)).toArray 28 (0,0)):=by rw[hw3];exact setRow_heap w' bi c _ _ _ wE
 have Jk:∀k,k≠bi->w3.heap[k]?=w'.heap[k]?:=λk hk=>by rw[hw3];exact setRow_other w' bi k _ hk
 have QA:w3.heap.size=w'.heap.size:=by rw[hw3];simp
 have CM:S w':=Om w' λk hk hn=>r5 k hk λe=>hn (hold k e).1
 have Lv:∀k,k<w.heap.size->¬(A k/\own<=k)->w3.heap[k]?=w.heap[k]?:=λk hk hn=>(Jk k λe=>hn (by rw[e];exact⟨ZI,Zn⟩)).trans (r5 k hk λe=>hn ⟨(hold k e).1,(hold k e).2.1⟩)
 have hS3:S w3:=Om w3 λk hk hn=>Lv k hk λe=>hn e.1
 have QJ:(execOp a.eval (M 10)).run prog w=.ok (.value v') w':=by
  simp only[execOp,m10.F8,resolve,invoke,builtin,lL,dx,jf,Sem.run_bind,Sem.run_pure,Result.andThen_ok,e32,h34,de]
 refine DV 1023 2047 10 aa aa (turn m10 ab QJ λa1 n1=>⟨CM,?_⟩)
 refine DV 2047 4095 11 aa aa (turn m11 (by have:=n1.sz;omega) (Hk m11.F8 (by rw[n1.ne _ ab];exact h25) (by rw[n1.ne _ ab];exact h27) hj) λa2 n2=>⟨CM,?_⟩)
 refine DV 4095 8191 12 aa aa (Sg m12 (w':=w3) (by rw[hw3];exact Nw m12.F8 n2.at_ (by rw[n2.ne _ ab];exact n1.at_) r8 r9 wE uf) ⟨hS3,?_⟩)
 refine wpAnyH_done aa ?_ 0;show Q a2 w3;refine hQ a2 w3 (λt ht=>by rw[n2.ne t ab,n1.ne t ab]) (by rw[n2.sz,n1.sz,hsz]) (by rw[n2.df,n1.df]) (by rw[hw3];exact r1) (by rw[hw3];exact r2) (by rw[hw3];exact r3) (by rw[QA];exact r4) Lv ?_;have uT:∀k,k<N->L k≠[]->bl k<w.heap.size/\bl k≠bi:=λk hk gn=>by
  obtain⟨u,_,g⟩:=oE k hk;rcases g with⟨g,_⟩|⟨_,g1,_,_,_,_,_,g2,_⟩
  ·exact absurd g gn
  ·exact⟨(aX.1 g2).1,g1⟩
 have XM:b'≠bi:=by
  rcases r6 with e|e
  ·exact(hold b' e).2.2
  ·omega
 have ZT:∀k,k<N->k≠j->L k≠[]->b'≠bl k:=λk hk Xp gn e=>by
  rcases r6 with⟨e1,e2⟩|e1
  ·exact Xp (LJ k j hk hj gn e1 (e.symm.trans e2))
  ·have:=(uT k hk gn).1;omega
 refine λ_=>⟨ZI,Zn,_,λk=>if k=j then b' else bl k,WA,λp q hp hq RS RQ he=>?_,λk hk=>?_⟩
 ·replace he:(if p=j then b' else bl p)=if q=j then b' else bl q:=he
  replace RS:(if p=j then L p++[n]else L p)≠[]:=RS;replace RQ:(if q=j then L q++[n]else L q)≠[]:=RQ;by_cases e1:p=j
  ·by_cases e2:q=j
   ·rw[e1,e2]
   ·rw[if_pos e1,if_neg e2]at he;rw[if_neg e2]at RQ;exact absurd he (ZT q hq e2 RQ)
  ·by_cases e2:q=j
   ·rw[if_neg e1,if_pos e2]at he;rw[if_neg e1]at RS;exact absurd he.symm (ZT p hp e1 RS)
   ·rw[if_neg e1,if_neg e2]at he;rw[if_neg e1]at RS;rw[if_neg e2]at RQ;exact LJ p q hp hq RS RQ he
 ·by_cases e1:k=j
  ·subst e1;refine⟨v',_s,?_⟩
   show C9 own A w3 bi (if k=k then b' else bl k) (if k=k then L k++[n]else L k) v';rw[if_pos rfl,if_pos rfl]
   exact r7.Jg λ_ hb XX=>⟨XX,Jk _ XM⟩
  ·obtain⟨u,g1,g2⟩:=oE k hk;refine⟨u,by rw[_r k e1];exact g1,?_⟩
   show C9 own A w3 bi (if k=j then b' else bl k) (if k=j then L k++[n]else L k) u;rw[if_neg e1,if_neg e1]
   refine g2.Jg λgn hb XX=>⟨XX,?_⟩
   rw[Jk _ (uT k hk gn).2]
   exact r5 _ hb λ⟨h1,h2⟩=>e1 (LJ k j hk hj gn h1 h2)
theorem Yo{w0:World}{S0 S:Nat->Prop}{ρ:eJ}{jZ:Nat->Option Loc}{st:St U El}{a a':Act}{w:World}(h:gR X w0 S0 S ρ jZ st a w)(ht:∀t:Nat,cC st.t t=.any\/a'.eval (.tmp t)=a.eval (.tmp t))(hs:a'.tmps.size=a.tmps.size)(hd:a'.defers=a.defers):gR X w0 S0 S ρ jZ st a' w:=
 ⟨⟨hd.trans h.inv.defers,hs.trans h.inv.size,h.inv.below,h.inv.hB,h.inv.s0,h.inv.s1,h.inv.g0,λt=>by
   rcases ht t with e|e
   ·rw[e];exact .any _
   ·have e':a'.tmps.getD t undef=a.tmps.getD t undef:=e;rw[e'];exact h.inv.tmps t,h.inv.heap⟩,h.fr,h.s0,h.s1,h.own,h.g,h.nf⟩
theorem xx{c c':Code}{Q:Exit->Act->World->Prop}{a:Act}{w:World}(e:c=c')(h:c'.wp prog Q a w):c.wp prog Q a w:=by rw[e];exact h
theorem O0(t:Nat):cC (F0 es i).t t=.any\/(t<25/\cC (F0 es i).t t=cC (F5 es i).t t):=by
 by_cases h4:t=4
 ·subst h4;exact .inr ⟨ab,rfl⟩
 by_cases h5:t=5
 ·subst h5;exact .inr ⟨ab,rfl⟩
 by_cases ZO:t=18
 ·subst ZO;exact .inr ⟨ab,rfl⟩
 by_cases ZN:t=19
 ·subst ZN;exact .inr ⟨ab,rfl⟩
 by_cases ZM:t=20
 ·subst ZM;exact .inr ⟨ab,rfl⟩
 refine .inl ?_;show cC (nF s0 (v0 es i)) t=.any;simp only[s0,v0,nF,cC,aO (cq h4),aO (cq h5),aO (cq ZO),aO (cq ZN),aO (cq ZM),cond_false]
theorem Ep(id:Nat)(b:qm U El)(h:aN (F0 es i).h id=some b):aN (F5 es i).h id=some b:=by
 have h':aN (h0 es) id=some b:=h;simp only[h0,aN]at h';by_cases e1:15000=id
 ·subst e1;cases h';rfl
 rw[aO e1,cond_false]at h';by_cases e2:4000=id
 ·subst e2;cases h';rfl
 rw[aO e2,cond_false]at h';cases h'
set_option maxHeartbeats 1000000 in
theorem part{w0:World}{S0 S:Nat->Prop}{ρ:eJ}{jZ:Nat->Option Loc}{a:Act}{w:World}{es:ah j9}{i N bi:Nat}{L:Nat->ah Int}(h:gR X w0 S0 S ρ jZ (F5 es i) a w)(vU:jZ 4000=some ⟨bi,0,0,N⟩)
 (hix:Ix w0.heap.size N bi L (apart (F5 es i) ρ S) w) {j:Nat} (hj:j<N) (hp:(es.getD i fi).p0=(j:Int)) (hlen:(L j).length<=90000) {Q:Exit->Act->World->Prop}
 (hQ:∀a' w',gR X w0 S0 S ρ jZ (F0 es i) a' w'->Ix w0.heap.size N bi (λk=>if k=j then L k++[(i:Int)]else L k) (apart (F0 es i) ρ S) w'->Q .normal a' w'):(oM (bb++[1]) bd).wp prog Q a w:=by
 obtain⟨l4,RJ,Ol⟩:=h.inv.heap.get 4000 (.box 4000 []) (by rfl)
 have QR:l4=⟨bi,0,0,N⟩:=by
  rcases Ol.1 with e|e
  ·cases e
  ·simp only[tight]at e;rw[vU]at e;exact(ez e).symm
 subst QR;obtain⟨l8,Zt,_,τ,yx⟩:=h.inv.heap.get 8 (.box 0 [.int .i64 (es.getD i fi).p0,.int .i64 (es.getD i fi).p1]) (by rfl)
 have TZ:l8.n≠0:=by rw[τ];simp
 obtain⟨_,hs8,c8,t8,hh8,hz8,hg8⟩:=yx TZ;obtain⟨u8,_0,_7⟩:=hg8 0 _ rfl;have _S:w.cell? ⟨l8.b,0,none⟩=some (.int .i64 (j:Int)):=by rw[qj hh8,_0,ym _7,hp]
 have QS:jc (F5 es i).h ρ l8.b:=⟨8,_,l8,by rfl,Zt,TZ,rfl⟩
 have Fk:∀k,jc (F5 es i).h ρ k->k<w.heap.size:=by
  rintro k ⟨id,b,l,g1,g2,g3,rfl⟩
  obtain⟨l',e,hb⟩:=h.inv.heap.get id b g1;rw[g2]at e;cases e;exact(hb.lt g3).1
 have r4:Rel E S ρ w (.cf 4000) (a.tmps.getD 4 undef):=h.inv.tmps 4;have r7:Rel E S ρ w (.int .i64 (i:Int)) (a.tmps.getD 7 undef):=h.inv.tmps 7;have r8:Rel E S ρ w (.ptr 8 0) (a.tmps.getD 8 undef):=h.inv.tmps 8;obtain⟨cap,q4⟩:∃cap,a.eval (.tmp 4)=.slice (some ⟨bi,0,none⟩) N cap:=by
  show∃cap,a.tmps.getD 4 undef=_;generalize a.tmps.getD 4 undef=q at r4;cases r4 with
  |cf _ cap l' dq _ _=>rw[RJ]at dq;cases dq;exact⟨cap,rfl⟩
  |j7 _ l' dq _ e1=>rw[RJ]at dq;cases dq;exact absurd e1 (by show N≠0;omega)
 have q7:a.eval (.tmp 7)=.int .i64 (i:Int):=ym r7;have q8:a.eval (.tmp 8)=.pointer (some ⟨l8.b,0,none⟩):=by
  show a.tmps.getD 8 undef=_;generalize a.tmps.getD 8 undef=q at r8;cases r8 with
  |ptr _ _ l' dq=>rw[Zt]at dq;cases dq;rfl
 have hsz:a.tmps.size=40:=h.inv.size;obtain⟨w1,hw1⟩:∃w1:World,w1={w with drawn:=w.drawn+1}:=⟨_,rfl⟩
 have uR:w1.heap=w.heap:=by rw[hw1]
 have Ud:Ix w0.heap.size N bi L (apart (F5 es i) ρ S) w1:=by
  refine Ix.pk _ _ _ _ _ _ S S w w1 (λ_ h=>h) (λ_ _=>by rw[uR]) (by rw[uR];exact aY _) (λk _ hk=>⟨hk,by rw[uR]⟩) hix
 obtain⟨c,bl,hc,oE⟩:∃(c:Array Value) (bl:Nat->Nat),w1.heap[bi]?=some (.cells c 28 (0,0))/\∀j,j<N->∃v,c[j]?=some v/\C9 w0.heap.size (apart (F5 es i) ρ S) w1 bi (bl j) (L j) v:=by
  obtain⟨_,_,c,bl,h1,_,h2⟩:=Ud ab
  exact⟨c,bl,h1,h2⟩
 obtain⟨v,hv,_⟩:=oE j hj;obtain⟨w2,hw2⟩:∃w2:World,w2=w1.alloc (.cells #[.int .i64 (i:Int)] 3):=⟨_,rfl⟩
 have TK:w2.heap[w1.heap.size]?=some (.cells #[.int .i64 (i:Int)] 3 (0,0)):=by rw[hw2];exact lD _ _
 have Jl:∀k,k<w1.heap.size->w2.heap[k]?=w1.heap[k]?:=λk hk=>by rw[hw2];exact heap_alloc_old w1 _ hk
 have Eb:w1.heap.size<=w2.heap.size:=by have:=(aX.1 TK).1;omega
 have Xs:Ix w0.heap.size N bi L (apart (F5 es i) ρ S) w2:=Ix.pk _ _ _ _ _ _ S S w1 w2 (λ_ h=>h) (λb hb=>Jl b (by rw[uR];exact h.inv.heap.lt b hb)) Eb (λk hk hA=>⟨hA,Jl k hk⟩) Ud;have Ut:=(aX.1 hc).1;have CM:w1.cell? ⟨l8.b,0,none⟩=some (.int .i64 (j:Int)):=by rw[<-_S];exact nD (by rw[uR])
 have VG:w2.cell? ⟨l8.b,0,none⟩=some (.int .i64 (j:Int)):=by rw[<-CM];exact nD (Jl _ (by rw[uR];exact Fk _ QS))
 have hfin: ∀a9,(∀t:Nat,t<25->a9.eval (.tmp t)=a.eval (.tmp t))->a9.tmps.size=40->a9.defers=a.defers->a9.eval (.tmp 25)=.slice (some ⟨bi,0,none⟩) N cap->a9.eval (.tmp 27)=.int .i64 (j:Int)->a9.eval (.tmp 34)=.slice (some ⟨w1.heap.size,0,none⟩) 1 1->a9.eval (.tmp 32)=v->
  wpAnyH prog .any o6 (nq λa w=>Q .normal a w) (λw'=>w'.cell? ⟨l8.b,0,none⟩=some (.int .i64 (j:Int))) 3 (lm 1023) a9 w2:=λa9 z1 z2 z3 z4 z5 z6 z7=>by
  refine Sl (own:=w0.heap.size) (L:=L) (A:=apart (F5 es i) ρ S) (SS:=S) Xs hj z2 z4 z5 z6 (by rw[qj ((Jl bi Ut).trans hc),hv,z7]) TK (λk hk=>⟨λe=>?_,λe=>?_⟩) ?_ (λk hk=>hk.2) (λb hb=>?_) hlen (λw' WB=>?_) (λa' w' y1 y2 y3 y4 y5 y6 y7 y8 y9=>?_)
  ·have:=Fk k e;rw[uR]at Eb;omega
  ·have:=h.inv.heap.lt k e;rw[uR]at Eb;omega
  ·have:=h.fr.size;rw[uR]at Eb;omega
  ·have:=h.inv.heap.lt b hb;rw[uR]at Eb;omega
  ·show w'.cell? _=_;rw[<-VG]
   exact nD (WB _ (by have:=Fk _ QS;rw[uR]at Eb;omega) λe=>e.1 QS)
  ·have WL: ∀k,k<w.heap.size-> ¬(apart (F5 es i) ρ S k/\w0.heap.size<=k)->w'.heap[k]?=w.heap[k]?:=λk hk hn=>by
    rw[y8 k (by rw[uR]at Eb;omega) hn,Jl k (by rw[uR];exact hk),uR]
   refine hQ a' w' ?_ ?_
   ·refine Yo (a:=a) (((h.less (bx:=F0 es i) (λt=>(O0 es i t).imp id λe=>e.2) (Ep es i)).world (w':=w') (λk hk=>?_) ⟨?_,?_,?_,?_,λd=>d.elim,λk hk hb=>?_⟩)) (λt=>?_) (y2.trans hsz.symm) (y3.trans z3)
    ·rcases hk with hk|⟨id,b,l,g1,g2⟩
     ·exact WL k (h.inv.heap.lt k hk) λe=>e.1.2 hk
     ·have rm:jc (F5 es i).h ρ k:=⟨id,b,l,Ep es i id b g1,g2⟩
      exact WL k (Fk k rm) λe=>e.1.1 rm
    ·rw[y4,hw2,hw1];rfl
    ·rw[y5,hw2,hw1];rfl
    ·rw[y6,hw2,hw1];rfl
    ·rw[uR]at Eb;omega
    ·exact WL k hk λe=>hb e.2
    ·rcases O0 es i t with e|⟨e,_⟩
     ·exact .inl e
     ·exact .inr ((y1 t e).trans (z1 t e))
   ·refine Ix.pk _ _ _ _ _ _ S S w' w' (λ_ h=>h) (λ_ _=>rfl) (aY _) (λk _ hk=>⟨vb (st:=F5 es i) (Ep es i) hk,rfl⟩) y9
 refine wp_mono (Q:=nq λa w=>Q .normal a w) ?_ (λe a w h=>by cases e<;>first|exact h|exact h.elim)
 refine xx (c':=.region 6 o6 true) aa (wp_region_held ok.mixed (S:=λw'=>w'.cell? ⟨l8.b,0,none⟩=some (.int .i64 (j:Int))) ?_)
 rw[<-hw1,show o6.size=13 by kernel_rfl,show Array.replicate 13 false=lm 0 by decide]
 have Fj:Region.noSelect o6=true:=aa
 refine xz 0 1 0 m0 aa Fj aa aa ab CM (λw _=>FG m0.F8) λa1 n1=>?_
 have z1:=n1.sz.trans hsz;refine xz 1 3 1 m1 aa Fj aa aa ab CM (λw _=>Hl m1.F8 (by rw[n1.ne _ ab];exact q8)) λa2 n2=>?_
 have z2:=n2.sz.trans z1;refine xz 3 7 2 m2 aa Fj aa aa ab CM (λw hw=>Hj m2.F8 n2.at_ hw) λa3 n3=>?_
 have z3:=n3.sz.trans z2;refine xz 7 15 3 m3 aa Fj aa aa ab CM (λw _=>FG m3.F8) λa4 n4=>?_
 have z4:=n4.sz.trans z3;refine xz 15 31 4 m4 aa Fj aa aa ab CM (λw _=>Hl m4.F8 (by rw[n4.ne _ ab,n3.ne _ ab,n2.ne _ ab,n1.ne _ ab];exact q8)) λa5 n5=>?_
 have z5:=n5.sz.trans z4;refine xz 31 63 5 m5 aa Fj aa aa ab CM (λw hw=>Hj m5.F8 n5.at_ hw) λa6 n6=>?_
 have z6:=n6.sz.trans z5;have _d:a6.eval (.tmp 28)=.slice (some ⟨bi,0,none⟩) N cap:=by rw[n6.ne _ ab,n5.ne _ ab,n4.at_,n3.ne _ ab,n2.ne _ ab,n1.ne _ ab];exact q4
 refine xz 63 127 6 m6 aa Fj aa aa ab CM (λw _=>Hk m6.F8 _d n6.at_ hj) λa7 n7=>?_
 have z7:=n7.sz.trans z6;refine xz 127 383 8 m8 aa Fj aa aa ab CM (λw _=>FG m8.F8) λa8 n8=>?_
 have z8:=n8.sz.trans z7;have o1:∀t:Nat,t<25->a8.eval (.tmp t)=a.eval (.tmp t):=λt ht=>by rw[n8.ne t ab,n7.ne t ab,n6.ne t ab,n5.ne t ab,n4.ne t ab,n3.ne t ab,n2.ne t ab,n1.ne t ab]
 have o2:a8.defers=a.defers:=by rw[n8.df,n7.df,n6.df,n5.df,n4.df,n3.df,n2.df,n1.df]
 have o3:a8.eval (.tmp 25)=.slice (some ⟨bi,0,none⟩) N cap:=by rw[n8.ne _ ab,n7.ne _ ab,n6.ne _ ab,n5.ne _ ab,n4.ne _ ab,n3.ne _ ab,n2.ne _ ab,n1.at_];exact q4
 have o4:a8.eval (.tmp 27)=.int .i64 (j:Int):=by rw[n8.ne _ ab,n7.ne _ ab,n6.ne _ ab,n5.ne _ ab,n4.ne _ ab];exact n3.at_
 have o5:a8.eval (.tmp 31)=.pointer (some ⟨bi,j,none⟩):=by rw[n8.ne _ ab];exact n7.at_
 have YQ:a8.eval (.tmp 33)=.int .i64 (i:Int):=by rw[n8.at_,n7.ne _ ab,n6.ne _ ab,n5.ne _ ab,n4.ne _ ab,n3.ne _ ab,n2.ne _ ab,n1.ne _ ab];exact q7
 have Q3:w1.cell? ⟨bi,j,none⟩=some v:=by rw[qj hc];exact hv
 have Q2:w2.cell? ⟨bi,j,none⟩=some v:=by rw[qj ((Jl bi Ut).trans hc)];exact hv
 refine V5 383 7 9 511 895 aa aa aa (turn m7 ab (Hh m7.F8 o5 Q3) λa9 n9=>⟨CM,?_⟩) (turn m9 (w':=w2) ab (by rw[hw2];exact KM m9.F8 YQ) λa9 n9=>⟨VG,?_⟩)
 ·have z9:=n9.sz.trans z8;refine DV 511 1023 9 aa aa (turn m9 (w':=w2) ab (by rw[hw2];exact KM m9.F8 (by rw[n9.ne _ ab];exact YQ)) λb1 k1=>⟨VG,?_⟩)
  exact hfin b1 (λt ht=>by rw[k1.ne t ab,n9.ne t ab];exact o1 t ht) (k1.sz.trans z9) (by rw[k1.df,n9.df];exact o2) (by rw[k1.ne _ ab,n9.ne _ ab];exact o3) (by rw[k1.ne _ ab,n9.ne _ ab];exact o4) k1.at_ (by rw[k1.ne _ ab];exact n9.at_)
 ·have z9:=n9.sz.trans z8;refine DV 895 1023 7 aa aa (turn m7 ab (Hh m7.F8 (by rw[n9.ne _ ab];exact o5) Q2) λb1 k1=>⟨VG,?_⟩)
  exact hfin b1 (λt ht=>by rw[k1.ne t ab,n9.ne t ab];exact o1 t ht) (k1.sz.trans z9) (by rw[k1.df,n9.df];exact o2) (by rw[k1.ne _ ab,n9.ne _ ab];exact o3) (by rw[k1.ne _ ab,n9.ne _ ab];exact o4) (by rw[k1.ne _ ab];exact n9.at_) k1.at_
end ur
namespace ur
theorem ghost{w0:World}{S0 S:Nat->Prop}{ρ:eJ}{jZ:Nat->Option Loc}{st:St U El}{a:Act}{w:World}(h:gR X w0 S0 S ρ jZ st a w)(hf:st.forget 4000=st)(WJ:yh 4000 st.h=true){l:Loc}(hn:l.n=0){d:Nat}(hd:d<40){v:Value}
 (hv:∀ρ':eJ,ρ' 4000=some l->Rel E S ρ' w (.cf 4000) v):
 gR X w0 S0 S ((ρ.del 4000).set 4000 l) (λt=>if t=4000 then some l else jZ t) ⟨(d,.cf 4000)::st.t,(4000,.box 4000 [])::st.h⟩ (a.put (some d) v) w:=by
 have hi:=h.inv.forget ok 4000;rw[hf]at hi;have e1:((ρ.del 4000).set 4000 l) 4000=some l:=by simp[eJ.set]
 have lC:∀j l',(ρ.del 4000) j=some l'->((ρ.del 4000).set 4000 l) j=some l':=λj l' hh=>by
  by_cases e:j=4000
  ·subst e;simp[eJ.del]at hh
  ·simp[eJ.set,e,hh]
 have Q0:∀j l',(ρ.del 4000) j=some l'->ρ j=some l':=λj l' hh=>by
  unfold eJ.del at hh;split at hh;cases hh;exact hh
 have Fk:∀k,jc ((4000,.box 4000 [])::st.h) ((ρ.del 4000).set 4000 l) k->jc st.h ρ k:=by
  rintro k ⟨id,bl,l',h1,h2,h3,rfl⟩
  simp only[aN]at h1;by_cases e:4000=id
  ·subst e;rw[e1]at h2;cases h2;exact absurd hn h3
  ·rw[aO e]at h1;exact⟨id,bl,l',h1,Q0 id l' (by simpa[eJ.set,cq e]using h2),h3,rfl⟩
 have Lz:∀k,jc ((4000,.box 4000 [])::st.h) ((ρ.del 4000).set 4000 l) k->w0.heap.size<=k:=λk hk=>h.own k (Fk k hk)
 refine⟨⟨h.inv.defers,by simp[Act.put,h.inv.size],Fr.refl _ _,λk hk=>.inl hk,λ_ h=>h,λ_ h=>.inl h,λw2 vj=>h.g w2 (h.fr.trans (vj.mono λk hk=>hk.elim (λe=>ck h.fr.size e) (Lz k))),?_,⟨λj bl hg=>?_,λi j b1 b2 l1 l2 kY lG gn oL lV o7 pN=>?_,h.inv.heap.lt⟩⟩,h.fr,h.s0,h.s1,Lz,h.g,h.nf⟩
 ·exact mW (X:=X) (d:=some d) (av:=.cf 4000) (λe he=>by cases he;rw[h.inv.size];exact hd) (λi=>(hi.tmps i).mono (λ_ h=>h) (λ_ _=>rfl) lC) (hv _ e1)
 ·simp only[aN]at hg;by_cases e:4000=j
  ·subst e;rw[aG]at hg;cases hg;exact⟨l,e1,.inr (by simp[tight]),hn,λh=>absurd hn h⟩
  ·rw[aO e]at hg;obtain⟨l',h1,h2⟩:=hi.heap.get j bl hg;have h1':=lC j l' h1;refine⟨l',h1',(h2.mono (λ_ h=>h) (λ_ _=>rfl) lC (λhn=>⟨rfl,(h2.lt hn).2.2⟩)).pins (λhn=>.inr ⟨j,bl,l',?_,h1',hn,rfl⟩) ?_⟩
   ·simp only[aN];rw[aO e];exact hg
   ·rcases h2.tagged with z|z
    ·exact .inl z
    ·rcases Fz WJ hg with ht|ht
     ·exact .inl ht
     ·exact .inr (by simp only[tight]at z⊢;rw[if_neg ht];exact z)
 ·simp only[aN]at kY lG;by_cases ei:4000=i
  ·subst ei;rw[e1]at oL;cases oL;exact absurd hn o7
  ·rw[aO ei]at kY;have rF:(ρ.del 4000) i=some l1:=by simpa[eJ.set,cq ei]using oL
   by_cases ej:4000=j
   ·subst ej;rw[e1]at lV;cases lV;exact absurd hn pN
   ·rw[aO ej]at lG;have qw:(ρ.del 4000) j=some l2:=by simpa[eJ.set,cq ej]using lV
    exact hi.heap.inj i j b1 b2 l1 l2 kY lG gn rF qw o7 pN
def P3(bi N:Nat):Nat->Option Loc:=λt=>if t=4000 then some ⟨bi,0,0,N⟩else none
def At(w0:World)(S0:Nat->Prop)(es:ah j9)(N bi k:Nat)(a:Act)(w:World):Prop:=∃S ρ,gR X w0 S0 S ρ (P3 bi N) (F0 es k) a w/\Ix w0.heap.size N bi (GY es k) (apart (F0 es k) ρ S) w
theorem MA{es:ah j9}{k j:Nat}(h:(es.getD k fi).p0=(j:Int)):(λq=>if q=j then GY es k q++[(k:Int)]else GY es k q)=GY es (k+1):=by
 funext q;rw[Mz,h]
 by_cases e:q=j
 ·rw[if_pos e,if_pos (by rw[e])]
 ·rw[if_neg e,if_neg ab]
set_option maxHeartbeats 1000000 in
theorem loop{w0:World}{S0:Nat->Prop}{es:ah j9}{N bi:Nat}(Ia:es.length<=90000)(Pq:∀k,k<es.length->∃j,j<N/\(es.getD k fi).p0=((j:Nat):Int)){Q:Exit->Act->World->Prop}(hQ:∀a' w',At w0 S0 es N bi es.length a' w'->Q (.exit 0) a' w'):
 ∀(n k:Nat) (a:Act) (w:World),es.length<n+k->k<=es.length->At w0 S0 es N bi k a w->Code.rounds prog (oM lb bd) Q n a w:=by
 intro n;induction n with
 |zero=>intro k a w h1 h2;omega
 |succ n ih=>
  rintro k a w h1 h2 ⟨S,ρ,hH,hI⟩
  show(oM lb bd).wp prog (Exit.then (Code.rounds prog (oM lb bd) Q n) Q) a w;refine gR.on ok jE (Ix.pk _ _ _ _) (c1:=oM (lb++[0]) bd) (c2:=oM (lb++[1]) bd) aa hH hI (e4 es k) λS1 nM a1 w1 hH1 VK=>?_
  refine xx (c':=.seq (oM (lb++[1,0]) bd) (oM (lb++[1,1]) bd)) aa (wp_seq ?_)
  by_cases hk:k<es.length
  ·rw[eh (show(k:Int)<Int.ofNat es.length by simp;omega)]at hH1 VK;refine gR.US ok jE (Ix.pk _ _ _ _) (st:=F1 es k true) hH1 VK (e4t es k) λS2 su a2 w2 hH2 XT=>?_
   show(oM (lb++[1,1]) bd).wp prog _ a2 w2;refine xx (c':=.seq (oM (lb++[1,1,0]) bd) (oM (lb++[1,1,1]) bd)) aa (wp_seq ?_)
   refine xx (c':=.block 1 (oM bb bd)) aa (wp_block ?_)
   refine gR.on ok jE (Ix.pk _ _ _ _) (c1:=oM (bb++[0]) bd) (c2:=oM (bb++[1]) bd) (st:=F0 es k) aa hH2 XT ((e5 es k).trans (by rw[c9 hk,pw hk];rfl)) λS3 RZ a3 w3 hH3 hI3=>?_
   obtain⟨j,hj,hp⟩:=Pq k hk;refine part (es:=es) (i:=k) hH3 (by simp[P3]) hI3 hj hp (by have:=OM es k j;omega) λa5 w5 XV VJ=>?_
   rw[MA hp]at VJ;show(oM (lb++[1,1,1]) bd).wp prog _ a5 w5;refine gR.US ok jE (Ix.pk _ _ _ _) (st:=F0 es k) XV VJ (e7 es k) λS6 Yt a6 w6 VL VI=>?_
   rw[eY k ab]at VL VI;exact ih (k+1) a6 w6 ab hk ⟨S6,Yt,VL,VI⟩
  ·have hke:k=es.length:=ab
   rw[dF (show¬(k:Int)<Int.ofNat es.length by simp;omega)]at hH1 VK;refine gR.out ok jE (Ix.pk _ _ _ _) 0 (st:=F1 es k false) hH1 VK (e4f es k) λS2 su a2 w2 hH2 XT=>?_
   subst hke;exact hQ a2 w2 ⟨S2,su,hH2,XT⟩
theorem Wd{S:Nat->Prop}{ρ:eJ}{w:World}(l:ah Int)(b cap:Nat)(cs:Array Value)(hS:S b)(hh:w.heap[b]?=some (.cells cs 3 (0,0)))(hc:l.length<=cap)(hg:∀(i:Nat) (x:Int),l[i]?=some x->cs[i]?=some (.int .i64 x)):Rel E S ρ w (.au .int l) (.slice (some ⟨b,0,none⟩) l.length cap):=by
 refine Rel.au (E:=E) U.int l b 0 cap (λi _=>(cs[i]?).getD undef) hS hc (λi x q c hx hq=>?_) (λi x q c hx hq=>?_)
 all_goals
  have Bm:([.int .i64 x]:ah (AV U El))[q]?=some c:=hq;have Bk:=hg i x hx;match q,Bm with
  |0,Bm=>
   cases Bm;first
   |(show w.cell? ⟨b,0+i*1+0,none⟩=_
     rw[show 0+i*1+0=i by omega,qj hh,Bk];rfl)
   |(show Rel E S ρ w (.int .i64 x) ((cs[i]?).getD undef)
     rw[Bk];exact .int _ _)
theorem SC{S:Nat->Prop}{ρ:eJ}{w:World}(ls:ah (ah Int))(b cap:Nat)(cs:Array Value)(hS:S b)(hh:w.heap[b]?=some (.cells cs 28 (0,0)))(hc:ls.length<=cap)(hg:∀(i:Nat) (x:ah Int),ls[i]?=some x->∃v,cs[i]?=some v/\Rel E S ρ w (.au .int x) v):Rel E S ρ w (.au .ints ls) (.slice (some ⟨b,0,none⟩) ls.length cap):=by
 refine Rel.au (E:=E) U.ints ls b 0 cap (λi _=>(cs[i]?).getD undef) hS hc (λi x q c hx hq=>?_) (λi x q c hx hq=>?_)
 all_goals
  have Bm:([.au .int x]:ah (AV U El))[q]?=some c:=hq;obtain⟨v,hv,hr⟩:=hg i x hx;match q,Bm with
  |0,Bm=>
   cases Bm;first
   |(show w.cell? ⟨b,0+i*1+0,none⟩=_
     rw[show 0+i*1+0=i by omega,qj hh,hv];rfl)
   |(show Rel E S ρ w (.au .int x) ((cs[i]?).getD undef)
     rw[hv];exact hr)
def FE(N:Nat)(es:ah j9):St U El:=⟨[(4,.au .ints (LW N es)),(5,.cf 15000)],[(15000,.rows .pair es)]⟩
set_option maxHeartbeats 1000000 in
theorem X3{w0:World}{S0:Nat->Prop}{es:ah j9}{N bi:Nat}{a:Act}{w:World}(h:At w0 S0 es N bi es.length a w):bK X (From w0) S0 w0 (FE N es) a w:=by
 obtain⟨S,ρ,h,hI⟩:=h;obtain⟨l4,RJ,Ol⟩:=h.inv.heap.get 4000 (.box 4000 []) (by rfl)
 have QR:l4=⟨bi,0,0,N⟩:=by
  rcases Ol.1 with e|e
  ·cases e
  ·simp only[tight,P3,if_true]at e;exact(ez e).symm
 subst QR;obtain⟨Vo,T',XL⟩:=h.inv.heap.get 15000 (.rows .pair es) (by rfl)
 have r4:Rel E S ρ w (.cf 4000) (a.tmps.getD 4 undef):=h.inv.tmps 4;have r5:Rel E S ρ w (.cf 15000) (a.tmps.getD 5 undef):=h.inv.tmps 5;have Pv:Vo.n≠0->jc (F0 es es.length).h ρ Vo.b:=λhn=>⟨15000,_,Vo,by rfl,T',hn,rfl⟩
 have key:∃Z:Nat->Prop,(∀k,Z k->apart (F0 es es.length) ρ S k/\w0.heap.size<=k/\k<w.heap.size)/\Rel E (λk=>S k\/Z k) ρ w (.au .ints (LW N es)) (a.tmps.getD 4 undef):=by
  generalize a.tmps.getD 4 undef=v at r4;have hlen:(LW N es).length=N:=by simp[LW]
  cases Nat.eq_zero_or_pos N with
  |inl h0=>
   have Dd:LW N es=[]:=bq (hlen.trans h0)
   rw[Dd]
   refine⟨λ_=>False,λ_ h=>h.elim,?_⟩
   cases r4 with
   |cf _ cap l' dq _ _=>
    rw[RJ]at dq;cases dq;show Rel _ _ _ _ _ (.slice _ N _)
    rw[h0]
    exact .jy _ _ _
   |j7 _ l' dq _ e1=>exact .jy _ _ _
  |inr h0=>
   obtain⟨hA,gK,c,bl,hc,LJ,oE⟩:=hI h0;refine⟨λk=>k=bi\/∃j,j<N/\GY es es.length j≠[]/\k=bl j,?_,?_⟩
   ·rintro k (rfl|⟨j,hj,gn,rfl⟩)
    ·exact⟨hA,gK,(aX.1 hc).1⟩
    ·obtain⟨u,_,g⟩:=oE j hj;rcases g with⟨g,_⟩|⟨_,_,g1,g2,_,_,_,g3,_⟩
     ·exact absurd g gn
     ·exact⟨g1,g2,(aX.1 g3).1⟩
   ·cases r4 with
    |j7 _ l' dq _ e1=>rw[RJ]at dq;cases dq;exact absurd e1 (by show N≠0;omega)
    |cf _ cap l' dq _ e2=>
     rw[RJ]at dq;cases dq;have e2':N<=cap:=e2;show Rel _ _ _ _ _ (.slice (some ⟨bi,0,none⟩) N cap)
     have:=SC (S:=λk=>S k\/(k=bi\/∃j,j<N/\GY es es.length j≠[]/\k=bl j)) (ρ:=ρ) (w:=w) (LW N es) bi cap c (.inr (.inl rfl)) hc ab (λi x hx=>?_)
     ·rw[hlen]at this;exact this
     ·have hi:i<N:=by rw[<-hlen];exact(ak.1 hx).1
      have hxe:x=GY es es.length i:=by
       simp only[LW,bo,List.getElem?_range hi,eK,bX]at hx;exact hx.symm
      obtain⟨u,g1,g2⟩:=oE i hi;refine⟨u,g1,?_⟩
      rcases g2 with⟨g2,g3⟩|⟨k1,_,_,_,Rm,cs,k2,k3,k4,_,k5⟩
      ·rw[hxe,g2,g3];exact .jy _ _ _
      ·rw[k2,hxe]
       exact Wd _ _ Rm cs (.inr (.inr ⟨i,hi,k1,rfl⟩)) k3 k4 k5
 obtain⟨Z,hZ,_a⟩:=key;refine⟨λk=>S k\/Z k,ρ,h.inv.defers,h.inv.size,h.fr,λk hk=>ck h.fr.size hk,λb hb=>.inl (h.s0 b hb),λb hb=>?_,h.g,λt=>?_,⟨λid b hg=>?_,λi j b1 b2 l1 l2 kY lG gn=>?_,λb hb=>?_⟩⟩
 ·rcases hb with hb|hb
  ·exact h.s1 b hb
  ·exact .inr (hZ b hb).2.1
 ·by_cases e4:t=4
  ·subst e4;exact _a
  by_cases e5:t=5
  ·subst e5;exact r5.mono (λ_ h=>.inl h) (λ_ _=>rfl) (λ_ _ h=>h)
  have:cC (FE N es).t t=.any:=by
   show cC ([(4,.au .ints (LW N es)),(5,.cf 15000)]:eH U El) t=.any;simp only[cC,aO (cq e4),aO (cq e5),cond_false]
  rw[this]
  exact .any _
 ·have qQ:aN ([(15000,.rows .pair es)]:bI U El) id=some b:=hg;simp only[aN]at qQ;by_cases e:15000=id
  ·subst e;rw[aG]at qQ;cases qQ;obtain⟨g1,g2,g3,g4⟩:=XL;refine⟨Vo,T',g1,g2,g3,λhn=>?_⟩
   obtain⟨g5,g6,c,g7,g8,g9⟩:=g4 hn;refine⟨h.own _ (Pv hn),λe=>?_,c,g7,g8,λi x q cc hx hq=>?_⟩
   ·rcases e with e|e
    ·exact g6 e
    ·exact(hZ _ e).1.1 (Pv hn)
   ·obtain⟨u,u1,u2⟩:=g9 i x q cc hx hq;exact⟨u,u1,u2.mono (λ_ h=>.inl h) (λ_ _=>rfl) (λ_ _ h=>h)⟩
  ·rw[aO e]at qQ;cases qQ
 ·have ku:aN ([(15000,.rows .pair es)]:bI U El) i=some b1:=kY;have xI:aN ([(15000,.rows .pair es)]:bI U El) j=some b2:=lG;simp only[aN]at ku xI;by_cases e:15000=i
  ·by_cases e':15000=j
   ·exact absurd (e.symm.trans e') gn
   ·rw[aO e']at xI;cases xI
  ·rw[aO e]at ku;cases ku
 ·rcases hb with hb|hb
  ·exact h.inv.heap.lt b hb
  ·exact(hZ b hb).2.2
end ur
def HD(n:Net)(i:Nat):ah Int:=((List.range n.cD.length).filter λk=>dX n (n.cD.getD k dz).lf==(i:Int)).map Int.ofNat
def m_(n:Net):ah (ah Int):=(List.range n.ct.length).map (HD n)
theorem I4(n:Net):(m_ n).length=n.ct.length:=by simp[m_]
theorem K0{n:Net}{l:ah Int}(h:l∈m_ n):l.length<=n.cD.length/\∀k∈l,∃m:Nat,m<n.cD.length/\k=(m:Int):=by
 simp only[m_,eT,mR]at h;obtain⟨i,_,rfl⟩:=h;constructor
 ·have:=List.length_filter_le (λk=>dX n (n.cD.getD k dz).lf==(i:Int)) (List.range n.cD.length)
  simpa[HD]using this
 ·intro k hk;simp only[HD,eT,oO,mR]at hk;obtain⟨m,⟨h1,_⟩,rfl⟩:=hk;exact⟨m,h1,rfl⟩
theorem qY(n:Net):(g_ n).length=n.cD.length:=by simp[g_]
theorem EJ{n:Net}{m:Nat}(h:m<n.cD.length):(List.getD (g_ n) m fi).p0=dX n (n.cD.getD m dz).lf:=by
 rw[bQ (show m<(g_ n).length by rw[qY];exact h),bQ h]
 simp[g_,zu]
theorem LV(n:Net):LW n.ct.length (g_ n)=m_ n:=by
 unfold LW m_;refine List.map_congr_left λi _=>?_
 unfold GY HD;rw[qY]
 congr 1;refine List.filter_congr λm hm=>?_
 rw[EJ (mR.1 hm)]
namespace ur
variable(es:ah j9)(n:Net)
def fM:Norm U:=⟨[],[2,3],[],[(2,.ints),(3,.pair)],[],[],[]⟩
def RR:bn U El:=λst=>cN fM st (ch [2,3] [])
abbrev B0:bI U El:=[(1,.box 0 [.au .node n.ct,.au .link n.cD])]
abbrev Ol:bI U El:=[(1,.box 0 [.au .node n.ct,.au .link n.cD]),(4000,.box 4000 [])]
def A0:St U El:=⟨[(0,.agg [.au .node n.ct,.au .link n.cD])],[]⟩
def A1:St U El:=⟨nF [1] [.ptr 1 0],B0 n⟩
def A2:St U El:=⟨nF [1,11] [.ptr 1 0,.int .i64 (Int.ofNat n.ct.length)],B0 n⟩
def A3:St U El:=⟨(12,.cf 4000)::nF [1,11] [.ptr 1 0,.int .i64 (Int.ofNat n.ct.length)],(4000,.box 4000 [])::B0 n⟩
def A4:St U El:=⟨nF [1,4] [.ptr 1 0,.cf 4000],Ol n⟩
def A5:St U El:=⟨nF [4,5] [.cf 4000,.cf 15000],h0 es⟩
def o1:Array Oper:=opsOf (oM [1,0] bd)
theorem g0:ex [0] .d (A0 n) [1] [1]=res 0 [.ptr 1 0] (B0 n):=aa
theorem g1:ju X [] (o1.toList.take 3) (A1 n) (mN 0 [1,11] [1])=res 0 [.ptr 1 0,.int .i64 (Int.ofNat n.ct.length)] (B0 n):=aa
theorem g2:ju X [] (o1.toList.drop 4) (A3 n) (mN 0 [1,4] [1,4000])=res 0 [.ptr 1 0,.cf 4000] (Ol n):=aa
theorem g3:ex [1,1,0] .d (A4 n) [4,5] d0=aU (gm n) (res 0 [.cf 4000,.cf 15000] (h0 (bif eR n then g_ n else []))):=aa
theorem g4:ex [1,1,1,0,0] .d (A5 es) s0 d0=res 0 (v0 es 0) (h0 es):=aa
theorem g5(N:Nat)(es:ah j9):exec X (oM [1,1,1,1] bd) .d (FE N es) RR (λ_ _=>none) RR=some (.bP [.au .ints (LW N es),.au .pair es],[]):=aa
def mk:Oper:=(o1[3]?).getD YR
theorem Td:o1[3]?=some mk:=aa
theorem Tc:mk.op=.makeSlice 238 (.tmp 11) (.tmp 11):=aa
theorem Qd:mk.dst=some 12:=aa
theorem Wp:mk.guard=none:=aa
theorem VW:∃i,prog.info? 28=some i/\i.zero=some (.slice none 0 0)/\i.size=1/\i.bytes=24:=⟨t28,type28,aa,aa,aa⟩
theorem run_mk{a:Act}{w:World}{N:Nat}(h:a.eval (.tmp 11)=.int .i64 (Int.ofNat N))(hN:N<=90000):(execOp a.eval mk).run prog w=.ok (.value (.slice (some ⟨w.heap.size,0,none⟩) N N)) (w.alloc (.cells (madeCells #[.slice none 0 0] N) 28)):=by
 obtain⟨i,h1,h2,h3,h4⟩:=VW;have hu:prog.underlying 238=some (.slice 28):=underlying238;have de:=run_make (P:=prog) w 238 28 i _ hu h1 h2 .i64 .i64 (Int.ofNat N) (Int.ofNat N) (dy N) (j_ _) (by rw[h4];show((24:Nat):Int)*(N:Int)<=_;omega) (by show(N:Int)<=_;omega)
 rw[h3,show(Int.ofNat N).toNat=N from rfl,mD]at de;simp only[execOp,Tc,h,Sem.run_bind]
 rw[de]
 rfl
theorem D2{l:ah Oper}(h:l.all (λo=>o.guard.isNone)=true):∀o∈l,o.guard=none:=λo ho=>by
 have:=aP.1 h o ho;cases hg:o.guard with
 |none=>rfl
 |some g=>rw[hg]at this;cases this
abbrev GT:(Nat->Prop)->(Nat->Prop)->World->Prop:=λ_ _ _=>True
theorem Q7:tz GT:=λ_ _ _ _ _ _ _ _ _ _ _=>trivial
theorem PM:bd=.seq (oM [0] bd) (oM [1] bd):=aa
set_option maxHeartbeats 2000000 in
theorem spec(hk:gm n=true)(hb:eR n=true):cV prog E 170 [.agg [.au .node n.ct,.au .link n.cD]] (.bP [.au .ints (m_ n),.au .pair (g_ n)]) []:=by
 obtain⟨hN,hK⟩:=kF hb;refine vI (X:=X) (nm:=fM) (lR:=[]) (res:=[2,3]) (ex:=[]) ok jE call170 func170 (body:=bd) aa aa (by rw[zd];exact aa) (by show 1<=40;decide) af (by rfl) λS0 w0 a hG hs Q hQ=>?_
 obtain⟨S,ρ,hi⟩:=hs;have hH:=gR.start hi (λid b hg=>by cases hg) rfl;refine gR.on ok jE Q7 (st:=A0 n) (c1:=oM [0] bd) (c2:=oM [1] bd) PM hH trivial (g0 n) λS1 nM a1 w1 hH1 _=>?_
 refine xx (c':=.seq (oM [1,0] bd) (oM [1,1] bd)) aa (wp_seq ?_)
 refine xx (c':=.region 1 o1 false) aa (wp_region ?_)
 rw[show List.range o1.size=List.range' 0 (o1.toList.take 3++o1.toList.drop 3).length by kernel_rfl]
 refine gR.ops ok jE Q7 (st:=A1 n) (o1.toList.drop 3) (o1.toList.take 3) 0 hH1 trivial (kN 3 _).symm (D2 aa) (g1 n) λS2 su a2 w2 hH2 _=>?_
 rw[show 0+(o1.toList.take 3).length=3 by kernel_rfl,show(o1.toList.drop 3).length=1+1 by kernel_rfl]
 have _b:Rel E S2 su w2 (.int .i64 (Int.ofNat n.ct.length)) (a2.tmps.getD 11 undef):=hH2.inv.tmps 11;obtain⟨w3,hw3⟩:∃w3:World,w3=w2.alloc (.cells (madeCells #[.slice none 0 0] n.ct.length) 28):=⟨_,rfl⟩
 refine Fu (w':=w3) Td Wp (by rw[hw3];exact run_mk (ym _b) ab) ?_;have TJ:w3.heap[w2.heap.size]?=some (.cells (madeCells #[.slice none 0 0] n.ct.length) 28 (0,0)):=by rw[hw3];exact lD _ _
 have Jk:∀k,k<w2.heap.size->w3.heap[k]?=w2.heap[k]?:=λk hk=>by rw[hw3];exact heap_alloc_old w2 _ hk
 have QA:w2.heap.size<=w3.heap.size:=by have:=(aX.1 TJ).1;omega
 have Ug:∀k,jc (A2 n).h su k->k<w2.heap.size:=by
  rintro k ⟨id,b,l,g1,g2,g3,rfl⟩
  obtain⟨l',e,hb⟩:=hH2.inv.heap.get id b g1;rw[g2]at e;cases e;exact(hb.lt g3).1
 have hH3:=hH2.world (w':=w3) (λk hk=>Jk k (hk.elim (hH2.inv.heap.lt k) (Ug k))) ⟨by rw[hw3];rfl,by rw[hw3];rfl,by rw[hw3];rfl,QA,λd=>d.elim,λk hk _=>Jk k hk⟩
 have hH4:=ghost (st:=A2 n) hH3 aa (by rfl) (l:=⟨w2.heap.size,0,0,n.ct.length⟩) rfl (d:=12) ab (v:=.slice (some ⟨w2.heap.size,0,none⟩) n.ct.length n.ct.length) (λρ' e=>.cf 4000 _ _ e ae (aY _))
 have hI4:Ix w0.heap.size n.ct.length w2.heap.size (λ_=>[]) (apart (A3 n) ((su.del 4000).set 4000 ⟨w2.heap.size,0,0,n.ct.length⟩) S2) w3:=by
  refine λhpos=>⟨⟨λe=>?_,λe=>?_⟩,hH2.fr.size,_,λ_=>0,TJ,λj k _ _ h=>absurd rfl h,λj hj=>⟨.slice none 0 0,?_,.inl ⟨rfl,rfl⟩⟩⟩
  ·obtain⟨id,b,l,g1,g2,g3,g4⟩:=e;have Q_:aN ((4000,.box 4000 [])::B0 n) id=some b:=g1;simp only[aN]at Q_;by_cases e1:4000=id
   ·subst e1;have:l=⟨w2.heap.size,0,0,n.ct.length⟩:=by
     have:=g2;simp[eJ.set]at this;exact this.symm
    subst this;exact g3 rfl
   ·rw[aO e1,cond_false]at Q_;have g2':su id=some l:=by
     have:=g2;simp[eJ.set,eJ.del,cq e1]at this;exact this
    have:=Ug l.b ⟨id,b,l,Q_,g2',g3,rfl⟩
    omega
  ·have:=hH2.inv.heap.lt _ e;omega
  ·rw[zF hj]
   simp[Nat.mod_one]
 rw[Qd]
 refine(show wpOps prog o1 _ (List.range' 4 ((o1.toList.drop 4)++[]).length) (a2.put (some 12) (.slice (some ⟨w2.heap.size,0,none⟩) n.ct.length n.ct.length)) w3 from ?_)
 refine gR.ops ok jE (Ix.pk _ _ _ _) (st:=A3 n) [] (o1.toList.drop 4) 4 hH4 hI4 (cU _).symm (D2 aa) (g2 n) λS5 ZZ a5 w5 XV VJ=>?_
 show(oM [1,1] bd).wp prog Q a5 w5;refine gR.on ok jE (Ix.pk _ _ _ _) (st:=A4 n) (c1:=oM [1,1,0] bd) (c2:=oM [1,1,1] bd) aa XV VJ ((g3 n).trans (by rw[hk,hb];rfl)) λS6 Yt a6 w6 VL VI=>?_
 refine xx (c':=.seq (oM [1,1,1,0] bd) (oM [1,1,1,1] bd)) aa (wp_seq ?_)
 refine gR.on ok jE (Ix.pk _ _ _ _) (st:=A5 (g_ n)) (c1:=oM [1,1,1,0,0] bd) (c2:=oM [1,1,1,0,1] bd) aa VL VI (g4 _) λS7 ZY a7 w7 hH7 hI7=>?_
 refine xx (c':=.block 0 (.loop (oM lb bd))) aa (wp_block (wp_loop_rounds 100000 ?_))
 refine loop (w0:=w0) (S0:=S0) (es:=g_ n) (N:=n.ct.length) (bi:=w2.heap.size) (by rw[qY];omega) (λk hk=>?_) (λa' w' hA=>?_) 100000 0 a7 w7 (by rw[qY];omega) (eS _) ⟨S7,ZY,?_,hI7⟩
 ·rw[qY]at hk;rw[EJ hk,bQ hk]
  obtain⟨_,k1,_⟩:=tM hb (bW hk)
  have g1:=nv k1;obtain⟨u,hu⟩:=bC g1.1;exact⟨u,ab,hu⟩
 ·show(oM [1,1,1,1] bd).wp prog Q a' w';have hs:=X3 hA;exact mw (r:=((.bP [.au .ints (m_ n),.au .pair (g_ n)],[]):Fin U El)) rfl ok jE (oM [1,1,1,1] bd) .d (FE n.ct.length (g_ n)) RR (λ_ _=>none) RR a' w' Q (λbx a' w' h1 h2=>(hQ bx a' w' h1 h2).1) (λi bx a' w' h1 h2=>by cases h2) (λbx a' w' h1 h2=>(hQ bx a' w' h1 h2).2) hs ((g5 _ _).trans (by rw[LV]))
 ·exact hH7
end ur
namespace Ew
def g:ah (AV U El)->Option (Bool×AV U El)
 |[.agg [.au .node a,.au .link b]]=>some (gm ⟨a,b⟩&&eR ⟨a,b⟩,.bP [.au .ints (m_ ⟨a,b⟩),.au .pair (g_ ⟨a,b⟩)])
 |_=>none
def sp:Sp U El:=cj g
theorem du:gQ prog E 170 sp:=B1 λvs v e h=>by
 unfold g at e;split at e
 ·cases e;obtain⟨h3,h4⟩:=aZ.1 h;exact .inl (ur.spec ⟨_,_⟩ h3 h4)
 ·cases e
end Ew
end
end Go.Proofs.YtfmamkmmohilgaaGreatDoor
