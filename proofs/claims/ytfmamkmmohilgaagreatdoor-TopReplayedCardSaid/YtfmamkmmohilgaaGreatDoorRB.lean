/- Contracts of functions that the law reaches, fourth part: wishes, settings, a controlled step. Conditions: each contract's own precondition. -/
import Derived.Test.YtfmamkmmohilgaaGreatDoorGO
namespace Go.Proofs.YtfmamkmmohilgaaGreatDoor
open Go.Proofs.Tryz IntKind
set_option linter.all false
set_option maxRecDepth 100000
noncomputable section
def G'(c:Int)(l:ah Int):Bool:=List.all l λx=>bg 0 x&&bg x c
theorem wH{c:Int}{l:ah Int}:G' c l=true↔kr c l:=by simp only[G',aP,aj,bg,decide_eq_true_eq];rfl
def zH(n:Net)(held w:ah Int):Bool:=gm n&&(eR n&&(Nat.beq held.length n.ct.length&&(Nat.beq w.length n.cD.length&&(G' 4503599627370496 held&&G' 1125899906842624 w))))
def pP(w:ah Int):ah Int->Int
 |[]=>0
 |k::l=>List.getD w k.toNat bF+pP w l
theorem yS(w:ah Int):∀(a b:ah Int),pP w (a++b)=pP w a+pP w b:=by
 intro a b;induction a with
 |nil=>simp[pP]
 |cons k a ih=>simp only[eM,pP,ih];omega
theorem yi{w:ah Int}(hw:kr 1125899906842624 w):∀(l:ah Int),(∀k∈l,∃m:Nat,m<w.length/\k=(m:Int))->0<=pP w l/\pP w l<=l.length*1125899906842624:=by
 intro l;induction l with
 |nil=>intro _;simp[pP]
 |cons k l ih=>
  intro h;obtain⟨m,hm,rfl⟩:=h k ae
  obtain⟨a,b⟩:=ih λk hk=>h k (by simp[hk])
  have c:=hw.at hm;simp only[pP,toNat_nat,bQ hm,cI]
  omega
namespace pC
variable(gW oV:bn U El)(n:Net)(held w:ah Int)(jW:bn U El)(cA:ah Int)
def X:=dp [u7.c,⟨170,Ew.sp,Ew.du⟩,Ev.c] 82
def bd:=dG f169
def fM:Norm U:=⟨[(6,.int)],[6],[6],[],[],[],[]⟩
def RR:bn U El:=λst=>cN fM st (ch [6] [6])
def eE:Norm U:=⟨[(7,.int)],[7],[7],[],[],[],[]⟩
def dI:Norm U:=⟨[(7,.int)],[1,2,7,27,28,29],[7],[],[],[],[]⟩
def xT:Norm U:=⟨[(7,.int)],[1,2,7,10,11,12,27,28,29],[7],[],[],[],[]⟩
def wX:Norm U:=⟨[(7,.int)],[1,2,7,10,11,12,27,28,29,34,35,36],[7],[],[],[],[]⟩
def sV:Norm U:=⟨[(7,.int)],[1,2,7,10,12,15,16,27,28,29,53,54,55],[7],[],[],[],[]⟩
def an:gb U:=(.seq none .d (.seq none .d (.seq none .d (.seq (some eE) (.seq none .d (.block (.loop dI (.seq none .d (.seq none .d (.seq (some dI) (.block (.seq none .d (.seq none .d (.seq (some xT) (.seq none .d (.block (.loop wX .d))) (.seq none .d (.seq none .d (.seq none .d (.block (.loop sV .d))))))))) .d)))))) .d))))
abbrev Y1:=(ah Int)->R
abbrev Y2:=(ah Int)->(ah Int)->(ah Int)->(ah (ah Int))->Int->Int->R
abbrev Y3:=(ah Int)->(ah Int)->(ah Int)->(ah (ah Int))->Int->Int->R
abbrev Y4:=(ah Int)->(ah Int)->(ah Int)->Int->(ah Int)->Int->(ah (ah Int))->Int->Int->R
abbrev Y5:=(ah Int)->(ah Int)->(ah Int)->Int->(ah Int)->Int->(ah (ah Int))->Int->Int->(ah Int)->Int->Int->R
abbrev Y6:=(ah Int)->(ah Int)->(ah Int)->Int->Int->Int->Int->(ah (ah Int))->Int->Int->(ah Int)->Int->Int->R
def fY(bA aA cA:ah Int)(hA:ah (ah Int))(iA gA:Int):St U El:=⟨[(1,.au .int bA),(2,.au .int aA),(7,.cf 7),(27,.au .ints hA),(28,.int .i64 iA),(29,.int .i64 gA)],[(7,.rows .int cA)]⟩
def UG(bA aA cA:ah Int)(kA:Int)(mA:ah Int)(dA:Int)(hA:ah (ah Int))(iA gA:Int)(pA:ah Int)(qA oA:Int):St U El:=⟨[(1,.au .int bA),(2,.au .int aA),(7,.cf 7),(10,.int .i64 kA),(11,.au .int mA),(12,.int .i64 dA),(27,.au .ints hA),(28,.int .i64 iA),(29,.int .i64 gA),(34,.au .int pA),(35,.int .i64 qA),(36,.int .i64 oA)],[(7,.rows .int cA)]⟩
def yz(bA aA cA:ah Int)(kA dA fA jA:Int)(hA:ah (ah Int))(iA gA:Int)(nA:ah Int)(rA lA:Int):St U El:=⟨[(1,.au .int bA),(2,.au .int aA),(7,.cf 7),(10,.int .i64 kA),(12,.int .i64 dA),(15,.int .i64 fA),(16,.int .i64 jA),(27,.au .ints hA),(28,.int .i64 iA),(29,.int .i64 gA),(53,.au .int nA),(54,.int .i64 rA),(55,.int .i64 lA)],[(7,.rows .int cA)]⟩
def cX(k2:Y2):R:=aU (bU w.length 90000) (aU (gm n&&eR n) (k2 held w (w) (m_ n) (Int.ofNat (List.length (m_ n))) (0:Int)))
def dR:R:=some (.cf 0,[(0,.rows .int cA)])
def dQ(bA aA cA:ah Int)(hA:ah (ah Int))(iA gA:Int)(k1:Y1)(k5:Y5):R:=ai (bz gA iA) (aU (dV gA hA.length) (k5 bA aA cA gA (hA.getD gA.toNat GM) (0:Int) hA iA gA (hA.getD gA.toNat GM) (Int.ofNat (List.length (hA.getD gA.toNat GM))) (0:Int))) (k1 cA)
def gf(bA aA cA:ah Int)(hA:ah (ah Int))(iA gA:Int)(k2:Y2):R:=k2 bA aA cA hA iA (i64.wrap (gA+(1:Int)))
def l_(bA aA cA:ah Int)(kA:Int)(mA:ah Int)(dA:Int)(hA:ah (ah Int))(iA gA:Int)(k3:Y3)(k6:Y6):R:=aU (dV kA bA.length) (ai (bg dA (bA.getD kA.toNat bF)) (k3 bA aA cA hA iA gA) (k6 bA aA cA kA dA (0:Int) (0:Int) hA iA gA mA (Int.ofNat mA.length) (0:Int)))
def sk(bA aA cA:ah Int)(kA:Int)(mA:ah Int)(dA:Int)(hA:ah (ah Int))(iA gA:Int)(pA:ah Int)(qA oA:Int)(k4:Y4)(k5:Y5):R:=ai (bz oA qA) (aU (dV oA pA.length) (aU (dV (pA.getD oA.toNat bF) aA.length) (k5 bA aA cA kA mA (i64.wrap (dA+(List.getD aA (Int.toNat (pA.getD oA.toNat bF)) bF))) hA iA gA pA qA (i64.wrap (oA+(1:Int)))))) (k4 bA aA cA kA mA dA hA iA gA)
def pQ(bA aA cA:ah Int)(kA dA fA jA:Int)(hA:ah (ah Int))(iA gA:Int)(nA:ah Int)(rA lA:Int)(k3:Y3)(k6:Y6):R:=ai (bz lA rA) (aU (dV lA nA.length) (aU (dV (nA.getD lA.toNat bF) aA.length) (aU (dV kA bA.length) (aU (zq (bA.getD kA.toNat bF) (i64.wrap (fA+(List.getD aA (Int.toNat (nA.getD lA.toNat bF)) bF))) dA) (aU (dV (nA.getD lA.toNat bF) cA.length) (aU (lU (Int.toNat (nA.getD lA.toNat bF)) cA.length&&true) (k6 bA aA (List.set cA (Int.toNat (nA.getD lA.toNat bF)) (i64.wrap (((Ev.P (bA.getD kA.toNat bF) (i64.wrap (fA+(List.getD aA (Int.toNat (nA.getD lA.toNat bF)) bF))) dA))-jA))) kA dA (i64.wrap (fA+(List.getD aA (Int.toNat (nA.getD lA.toNat bF)) bF))) ((Ev.P (bA.getD kA.toNat bF) (i64.wrap (fA+(List.getD aA (Int.toNat (nA.getD lA.toNat bF)) bF))) dA)) hA iA gA nA rA (i64.wrap (lA+(1:Int)))))))))) (k3 bA aA cA hA iA gA)
abbrev ex:=kf X bd an RR
abbrev it:=nO X bd an RR
def gu:=it dI [1,1,1,0,1,0,0] (cu 0 (bG eE gW) nE)
def TA(Ff:bn U El):=it wX [1,1,1,0,1,0,0,1,1,0,0,1,1,0,1,0,0] (cu 2 (bG xT Ff) (cu 1 (bG dI oV) (cu 0 (bG eE gW) nE)))
def AL:=it sV [1,1,1,0,1,0,0,1,1,0,0,1,1,1,1,1,1,0,0] (cu 4 (bG dI oV) (cu 1 (bG dI oV) (cu 0 (bG eE gW) nE)))
def cQ:=ex [1,1,1,1] RR nE
def mz(iP:bn U El):=ex [1,1,1,0,1,0,0,1,1,1] (bG dI iP) (cu 0 (bG eE gW) nE)
def pH:=ex [1,1,1,0,1,0,0,1,1,0,0,1,1,1] (bG dI oV) (cu 1 (bG dI oV) (cu 0 (bG eE gW) nE))
def f1:R:=dR cA
def f3(k2:Y2)(bA aA cA:ah Int)(hA:ah (ah Int))(iA gA:Int):R:=gf bA aA cA hA iA gA k2
def f6(k2:Y2):Nat->Y6
 |0=>λ_ _ _ _ _ _ _ _ _ _ _ _ _=>none
 |n+1=>λbA aA cA kA dA fA jA hA iA gA nA rA lA=>pQ bA aA cA kA dA fA jA hA iA gA nA rA lA (f3 k2) (f6 k2 n)
def f4(k2:Y2)(bA aA cA:ah Int)(kA:Int)(mA:ah Int)(dA:Int)(hA:ah (ah Int))(iA gA:Int):R:=l_ bA aA cA kA mA dA hA iA gA (f3 k2) (f6 k2 100000)
def f5(k2:Y2):Nat->Y5
 |0=>λ_ _ _ _ _ _ _ _ _ _ _ _=>none
 |n+1=>λbA aA cA kA mA dA hA iA gA pA qA oA=>sk bA aA cA kA mA dA hA iA gA pA qA oA (f4 k2) (f5 k2 n)
def f2:Nat->Y2
 |0=>λ_ _ _ _ _ _=>none
 |n+1=>λbA aA cA hA iA gA=>dQ bA aA cA hA iA gA f1 (f5 (f2 n) 100000)
def f0:R:=cX n held w (f2 100000)
theorem E1:(λcA=>(hid cQ) ⟨[(7,.cf 7)],[(7,.rows .int cA)]⟩)=f1:=by funext cA;refine cm ?_;unfold f1;exact aa
theorem E3(k2:Y2)(h2:(λbA aA cA hA iA gA=>jW (fY bA aA cA hA iA gA))=k2):(λbA aA cA hA iA gA=>(hid (mz (hid cQ) jW)) ⟨[(1,.au .int bA),(2,.au .int aA),(7,.cf 7),(27,.au .ints hA),(28,.int .i64 iA),(29,.int .i64 gA)],[(7,.rows .int cA)]⟩)=f3 k2:=by subst h2;funext bA aA cA hA iA gA;refine cm ?_;unfold f3;exact aa
theorem T6(k2:Y2)(h2:(λbA aA cA hA iA gA=>jW (fY bA aA cA hA iA gA))=k2):∀n,(λbA aA cA kA dA fA jA hA iA gA nA rA lA=>AL (hid cQ) (hid (mz (hid cQ) jW)) n (yz bA aA cA kA dA fA jA hA iA gA nA rA lA))=f6 k2 n:=by
 subst h2;intro n;induction n with
 |zero=>rfl
 |succ n ih=>funext bA aA cA kA dA fA jA hA iA gA nA rA lA;rw[f6];rw[<-E3 jW _ rfl,<-ih];exact aa
theorem H6(k2:Y2)(h2:(λbA aA cA hA iA gA=>jW (fY bA aA cA hA iA gA))=k2):(λbA aA cA kA dA fA jA hA iA gA nA rA lA=>hid (AL (hid cQ) (hid (mz (hid cQ) jW)) 100000) (yz bA aA cA kA dA fA jA hA iA gA nA rA lA))=f6 k2 100000:=by rw[cM];exact(T6 jW k2 h2 100000)
theorem E4(k2:Y2)(h2:(λbA aA cA hA iA gA=>jW (fY bA aA cA hA iA gA))=k2):(λbA aA cA kA mA dA hA iA gA=>(hid (pH (hid cQ) (hid (mz (hid cQ) jW)))) ⟨[(1,.au .int bA),(2,.au .int aA),(7,.cf 7),(10,.int .i64 kA),(11,.au .int mA),(12,.int .i64 dA),(27,.au .ints hA),(28,.int .i64 iA),(29,.int .i64 gA)],[(7,.rows .int cA)]⟩)=f4 k2:=by subst h2;funext bA aA cA kA mA dA hA iA gA;refine cm ?_;unfold f4;rw[<-E3 jW _ rfl,<-H6 jW _ rfl];exact aa
theorem T5(k2:Y2)(h2:(λbA aA cA hA iA gA=>jW (fY bA aA cA hA iA gA))=k2):∀n,(λbA aA cA kA mA dA hA iA gA pA qA oA=>TA (hid cQ) (hid (mz (hid cQ) jW)) (hid (pH (hid cQ) (hid (mz (hid cQ) jW)))) n (UG bA aA cA kA mA dA hA iA gA pA qA oA))=f5 k2 n:=by
 subst h2;intro n;induction n with
 |zero=>rfl
 |succ n ih=>funext bA aA cA kA mA dA hA iA gA pA qA oA;rw[f5];rw[<-E4 jW _ rfl,<-ih];exact aa
theorem H5(k2:Y2)(h2:(λbA aA cA hA iA gA=>jW (fY bA aA cA hA iA gA))=k2):(λbA aA cA kA mA dA hA iA gA pA qA oA=>hid (TA (hid cQ) (hid (mz (hid cQ) jW)) (hid (pH (hid cQ) (hid (mz (hid cQ) jW)))) 100000) (UG bA aA cA kA mA dA hA iA gA pA qA oA))=f5 k2 100000:=by rw[cM];exact(T5 jW k2 h2 100000)
theorem T2:∀n,(λbA aA cA hA iA gA=>gu (hid cQ) n (fY bA aA cA hA iA gA))=f2 n:=by
 intro n;induction n with
 |zero=>rfl
 |succ n ih=>funext bA aA cA hA iA gA;rw[f2];rw[<-E1,<-H5 (gu (hid cQ) n) _ ih];exact aa
theorem H2:(λbA aA cA hA iA gA=>hid (gu (hid cQ) 100000) (fY bA aA cA hA iA gA))=f2 100000:=by rw[cM];exact(T2 100000)
theorem run:ca X bd an fM [6] [6] [eA .mP n,.au .int held,.au .int w]=f0 n held w:=by unfold f0;rw[<-H2];exact aa
def G(p:ah Int):Prop:=p.length=w.length
theorem Lg{held w:ah Int}{L:Int}{x:ah (ah Int)}(hh:kr 4503599627370496 held)(hw:kr 1125899906842624 w)(k2:Y2){i:Nat}(hi:i<held.length){l:ah Int}(hl:l.length<=400)(hk: ∀k∈l,∃m:Nat,m<w.length/\k=(m:Int))(hs:held[i]<pP w l)(yw: ∀out,out.length=w.length->kt (qR .int) (G w) (f3 k2 held w out x L (i:Int))):
 ∀(m j:Nat) (out:ah Int) (b d:Int),l.length<m+j->j<=l.length->out.length=w.length->b=pP w (l.take j)->kt (qR .int) (G w) (f6 k2 m held w out (i:Int) (pP w l) b d x L (i:Int) l (Int.ofNat l.length) (j:Int)):=by
 intro m;induction m with
 |zero=>intro j out b d h1 h2;omega
 |succ m ih=>
  intro j out b d h1 h2 h3 h4;show kt (qR .int) (G w) (pQ held w out (i:Int) (pP w l) b d x L (i:Int) l (Int.ofNat l.length) (j:Int) (f3 k2) (f6 k2 m))
  unfold pQ;by_cases hj:j<l.length
  ·obtain⟨p,hp,he⟩:=hk _ (bW hj)
   have hv:=hw.at hp;have _4:=yi hw l hk;have hhi:=hh.at hi;have e1:pP w (l.take (j+1))=b+w[p]:=by
    rw[yg hj,yS,<-h4,he]
    simp only[pP,toNat_nat,bQ hp]
    omega
   have e2:=yi hw (l.drop (j+1)) λk rm=>hk k (List.mem_of_mem_drop rm)
   have e3:pP w l=pP w (l.take (j+1))+pP w (l.drop (j+1)):=by rw[<-yS,kN]
   have e4:=yi hw (l.take j) λk rm=>hk k (List.mem_of_mem_take rm)
   rw[<-h4]at e4;have Zk:p<out.length:=ab
   rw[eh (by simp;omega),c9 hj,toNat_nat,bQ hj,he,c9 hp,c9 hi,toNat_nat,toNat_nat,bQ hp,bQ hi,c9 Zk,pw Zk,eY j ab,jD (x:=b+w[p]) ab ab]
   simp only[eZ,ee,dJ]
   refine .aU ?_ (ih _ _ _ _ ab hj (by simpa using h3) e1.symm)
   exact eN (iI hhi.1) (eN (iI ab) (eN (iI ab) (eN (iI ab) (eN (iI ab) (iI ab)))))
  ·have:j=l.length:=ab
   subst this;rw[dF ae]
   exact yw out h3
theorem Lh{held w:ah Int}{L:Int}{x:ah (ah Int)}(hh:kr 4503599627370496 held)(hw:kr 1125899906842624 w)(k2:Y2){i:Nat}(hi:i<held.length){l:ah Int}(hl:l.length<=400)(hk: ∀k∈l,∃m:Nat,m<w.length/\k=(m:Int))(yw: ∀out,out.length=w.length->kt (qR .int) (G w) (f3 k2 held w out x L (i:Int))){out:ah Int}(ho:out.length=w.length):
 ∀(m j:Nat) (b:Int),l.length<m+j->j<=l.length->b=pP w (l.take j)->kt (qR .int) (G w) (f5 k2 m held w out (i:Int) l b x L (i:Int) l (Int.ofNat l.length) (j:Int)):=by
 intro m;induction m with
 |zero=>intro j b h1 h2;omega
 |succ m ih=>
  intro j b h1 h2 h4;show kt (qR .int) (G w) (sk held w out (i:Int) l b x L (i:Int) l (Int.ofNat l.length) (j:Int) (f4 k2) (f5 k2 m))
  unfold sk;by_cases hj:j<l.length
  ·obtain⟨p,hp,he⟩:=hk _ (bW hj)
   have hv:=hw.at hp;have e1:pP w (l.take (j+1))=b+w[p]:=by
    rw[yg hj,yS,<-h4,he]
    simp only[pP,toNat_nat,bQ hp]
    omega
   have e4:=yi hw (l.take j) λk rm=>hk k (List.mem_of_mem_take rm)
   rw[<-h4]at e4;have:(l.take j).length<=400:=by simp;omega
   rw[eh (by simp;omega),c9 hj,toNat_nat,bQ hj,he,c9 hp,toNat_nat,bQ hp,eY j ab,jD (x:=b+w[p]) ab ab]
   simp only[eZ,ee]
   exact ih _ _ ab hj e1.symm
  ·have:j=l.length:=ab
   subst this;rw[dF ae]
   rw[List.take_length]at h4;show kt (qR .int) (G w) (l_ held w out (i:Int) l b x L (i:Int) (f3 k2) (f6 k2 100000))
   unfold l_;rw[c9 hi,eZ,toNat_nat,bQ hi]
   refine .fy (λ_=>yw out ho) λhc=>?_
   have hc:=decide_eq_false_iff_not.1 hc;subst h4;exact Lg hh hw k2 hi hl hk ab yw 100000 0 out 0 0 ab ab ho rfl
theorem h_{n:Net}{held w:ah Int}(hN:n.ct.length<=300)(hK:n.cD.length<=400)(Zr:held.length=n.ct.length)(Xk:w.length=n.cD.length)(hh:kr 4503599627370496 held)(hw:kr 1125899906842624 w):
 ∀(m i:Nat) (out:ah Int),n.ct.length<m+i->i<=n.ct.length->out.length=w.length->kt (qR .int) (G w) (f2 m held w out (m_ n) (Int.ofNat (m_ n).length) (i:Int)):=by
 intro m;induction m with
 |zero=>intro i out h1 h2;omega
 |succ m ih=>
  intro i out h1 h2 h3;show kt (qR .int) (G w) (dQ held w out (m_ n) (Int.ofNat (m_ n).length) (i:Int) f1 (f5 (f2 m) 100000))
  unfold dQ;have gr:=I4 n;by_cases hi:i<n.ct.length
  ·have ku:i<(m_ n).length:=ab
   obtain⟨l1,l2⟩:=K0 (bW ku)
   rw[eh (by simp;omega),c9 ku,toNat_nat,bQ ku]
   simp only[eZ,ee]
   refine Lh hh hw (f2 m) ab ab (λk hk=>by rw[Xk];exact l2 k hk) (λF2 ho=>?_) h3 100000 0 0 ab ab rfl;show kt (qR .int) (G w) (f2 m held w F2 (m_ n) (Int.ofNat (m_ n).length) (i64.wrap ((i:Int)+1)))
   rw[eY i ab]
   exact ih _ _ ab hi ho
  ·have:i=(m_ n).length:=ab
   subst this;rw[dF ae]
   exact kt.mk (q:=qR .int) out h3
theorem bE(h:zH n held w=true):kt (qR .int) (G w) (f0 n held w):=by simp only[zH,aj,wH]at h;obtain⟨h1,h2,h3,h4,h5,h6⟩:=h;obtain⟨n1,n2⟩:=kF h2;have h3:=al h3;have h4:=al h4;exact .aU (c_ ab) (.aU (eN h1 h2) (h_ n1 n2 h3 h4 h5 h6 100000 0 w ab ab rfl))
def P:ah Int:=Classical.epsilon λa=>f0 n held w=some (qR .int a)/\G w a
theorem wy{n:Net}{held w:ah Int}(h:zH n held w=true):(P n held w).length=w.length:=(bE n held w h).iJ.2
theorem aw(h:zH n held w=true):f0 n held w=some (qR .int (P n held w)):=(bE n held w h).iJ.1
def c:Ct:=⟨169,ko (A3 (aR .mP) (bL .int) (bL .int) λn held w=>(zH n held w,(.cf 0,[(0,.rows .int (pC.P n held w))]))),zw call169 func169 (a3 λn held w e_=>⟨(run n held w).trans (aw n held w e_),rfl⟩)⟩
end pC
namespace fC
def wl(t:Int):ah Int->ah Int->ah Int×Int
 |[],out=>(out,0)
 |q::qs,out=>bif(ly.P q t).2 !=0 then([],(ly.P q t).2)else wl t qs (out++[(ly.P q t).1])
def P(n:Net)(l:ah cK)(s:cO)(t:Int):ah Int×ah Bool×Int:=
 bif(cG.P n s.fH).2 !=0 then([],[],(cG.P n s.fH).2)else
 bif(vR.P n s (cG.P n s.fH).1).2 !=0 then([],[],(vR.P n s (cG.P n s.fH).1).2)else
 bif(kq.P n l (cG.P n s.fH).1 ⟨s.fH,s.gw,s.dH,(vR.P n s (cG.P n s.fH).1).1⟩).2 !=0 then([],[],(kq.P n l (cG.P n s.fH).1 ⟨s.fH,s.gw,s.dH,(vR.P n s (cG.P n s.fH).1).1⟩).2)else
 bif(wl t (kq.P n l (cG.P n s.fH).1 ⟨s.fH,s.gw,s.dH,(vR.P n s (cG.P n s.fH).1).1⟩).1 []).2 !=0 then([],[],(wl t (kq.P n l (cG.P n s.fH).1 ⟨s.fH,s.gw,s.dH,(vR.P n s (cG.P n s.fH).1).1⟩).1 []).2)else
 ((wl t (kq.P n l (cG.P n s.fH).1 ⟨s.fH,s.gw,s.dH,(vR.P n s (cG.P n s.fH).1).1⟩).1 []).1,(vR.P n s (cG.P n s.fH).1).1,0)
theorem Sd(t:Int): ∀(qs out:ah Int),kr 1125899906842624 out->(wl t qs out).2=0->(wl t qs out).1.length=out.length+qs.length/\kr 1125899906842624 (wl t qs out).1:=by
 intro qs;induction qs with
 |nil=>intro out h _;exact⟨rfl,h⟩
 |cons q qs ih=>
  intro out h h0;have hG:=ly.OS q t;show(wl t (q::qs) out).1.length=_/\_;unfold wl at h0⊢;cases e:(ly.P q t).2 !=0 with
  |true=>
   simp only[e,cond_true]at h0;rw[h0]at e;cases e
  |false=>
   simp only[e,cond_false]at h0⊢;have hv:kr 1125899906842624 (out++[(ly.P q t).1]):=λx hx=>by
    rcases kz.1 hx with k|k
    ·exact h x k
    ·rw[cz.1 k];exact hG (by simpa using e)
   obtain⟨a,b⟩:=ih _ hv h0;exact⟨by rw[a];simp;omega,b⟩
theorem OS{n:Net}{l:ah cK}{s:cO}{t:Int}(h:(gm n&&bU l.length 90000)=true)(h0:(P n l s t).2.2=0):(P n l s t).1.length=n.cD.length/\kr 1125899906842624 (P n l s t).1/\(P n l s t).2.1.length=n.cD.length:=by
 obtain⟨h1,h2⟩:=aZ.1 h;unfold P at h0⊢;cases e1:(cG.P n s.fH).2 !=0 with
 |true=>simp only[e1,cond_true]at h0;rw[h0]at e1;cases e1
 |false=>
  simp only[e1,cond_false]at h0⊢;have k2:=vR.wy (n:=n) (s:=s) (v:=(cG.P n s.fH).1) h1;generalize vR.P n s (cG.P n s.fH).1=on at k2 h0⊢;cases e2:on.2 !=0 with
  |true=>simp only[e2,cond_true]at h0;rw[h0]at e2;cases e2
  |false=>
   simp only[e2,cond_false]at h0⊢;have k3:=kq.wy (n:=n) (l:=l) (v:=(cG.P n s.fH).1) (s:=⟨s.fH,s.gw,s.dH,on.1⟩) h;generalize kq.P n l (cG.P n s.fH).1 ⟨s.fH,s.gw,s.dH,on.1⟩=fl at k3 h0⊢;cases e3:fl.2 !=0 with
   |true=>simp only[e3,cond_true]at h0;rw[h0]at e3;cases e3
   |false=>
    simp only[e3,cond_false]at h0⊢;have k4:=Sd t fl.1 [] (λx hx=>by cases hx)
    generalize wl t fl.1 []=r at k4 h0⊢;cases e4:r.2 !=0 with
    |true=>simp only[e4,cond_true]at h0;rw[h0]at e4;cases e4
    |false=>
     simp only[e4,cond_false]
     obtain⟨a,b⟩:=k4 (by simpa using e4)
     exact⟨by rw[a,k3.1 (by simpa using e3)];simp,b,k2.1 (by simpa using e2)⟩
end fC
theorem OD{b:Bool}{x y:R}(h:b=false):ai b x y=y:=by rw[h];rfl
def EM(k:bn U El):bn U El:=λs2=>match aN s2.h 1000000002,aN s2.h 1000000003,aN s2.h 1000000004 with
 |some (.box t0 _),some (.box t1 _),some (.box t2 _)=>aU (Nat.beq t0 1000000002&&(Nat.beq t1 1000000003&&Nat.beq t2 1000000004)) (k ⟨[(8,.ptr 1000000002 0),(9,.ptr 1000000003 0),(10,.ptr 1000000004 0)],s2.h⟩)
 |_,_,_=>none
def JJ(X:Ctx U El):Ctx U El:={X with nt:=5}
abbrev Rd:gb U:=.seq none .d (.cond .d .d)
def UX(X:Ctx U El)(c:Code)(sl:ah Nat)(st:St U El)(k:bn U El):R:=match cC st.t 8,cC st.t 9,cC st.t 10,aN st.h 1000000002,aN st.h 1000000003,aN st.h 1000000004 with
 |.ptr i 0,.ptr j 0,.ptr m 0,some (.box t0 _),some (.box t1 _),some (.box t2 _)=>aU (Nat.beq i 1000000002&&(Nat.beq j 1000000003&&(Nat.beq m 1000000004&&(Nat.beq t0 1000000002&&(Nat.beq t1 1000000003&&Nat.beq t2 1000000004))))) (exec (JJ X) c Rd ⟨[(0,.ptr 1000000004 0),(1,.ptr 1000000002 0),(2,.ptr 1000000003 0)],st.h⟩ (EM k) (λ_ _=>none) (EM k))
 |_,_,_,_,_,_=>none
namespace kR
variable(l:ah cK)(t:Int)(nd:ah Node)(lk:ah cJ)(vo po se:ah Int)(aA:Int)(fA:ah Int)(gA:Int)
def X:=dp [cG.c,vR.c,kq.c,ly.c] 64
def bd:=oM [1,1] (dG f168)
def fM:Norm U:=⟨[(64,.int),(65,.bool)],[64,65,66],[64,65],[],[],[],[]⟩
def RR:bn U El:=λst=>UX X (dG f235) [10,8,9] st λst=>fz X 64 [(8,28),(9,29),(10,50)] 64 st λst=>cN fM st (ch [64,65,66] [64,65])
def eE:Norm U:=⟨[(45,.int)],[3,8,9,10,45,46,47],[45,1000000002,1000000003,1000000004,600000200,600000300],[],[(1000000002,0,.int,600000200),(1000000003,0,.bool,600000300)],[],[]⟩
def an:gb U:=(.seq none .d (.seq none .d (.seq none .d (.seq none .d (.seq none .d (.seq none (.seq none .d (.block (.loop eE .d))) .d))))))
abbrev Y1:=Int->(ah Int)->Int->Int->(ah Int)->(ah Bool)->Int->R
def Rb(eA:Int)(bA:ah Int)(cA:ah Bool)(dA:Int):St U El:=⟨[(3,.int .i64 aA),(8,.ptr 1000000002 0),(9,.ptr 1000000003 0),(10,.ptr 1000000004 0),(45,.cf 45),(46,.int .i64 gA),(47,.int .i64 eA)],[(45,.rows .int fA),(1000000002,.box 1000000002 [.cf 600000200]),(1000000003,.box 1000000003 [.cf 600000300]),(1000000004,.box 1000000004 [.int .i64 dA]),(600000200,.rows .int bA),(600000300,.rows .bool cA)]⟩
def cX(on:ah Bool)(en:Int)(k1:Y1):R:=aU (gm (⟨nd,lk⟩:Net)) (ai (((cG.P (⟨nd,lk⟩:Net) vo).2) !=(0:Int)) (ai (((cG.P (⟨nd,lk⟩:Net) vo).2) !=(0:Int)) (some ((.bP [.cf 0,.cf 1,(.int .i64 ((cG.P (⟨nd,lk⟩:Net) vo).2))]),[(0,.rows .int ([]:ah Int)),(1,.rows .bool ([]:ah Bool))])) (some ((.bP [.cf 0,.cf 1,(.int .i64 ((cG.P (⟨nd,lk⟩:Net) vo).2))]),[(0,.rows .int ([]:ah Int)),(1,.rows .bool ([]:ah Bool))]))) (aU (gm (⟨nd,lk⟩:Net)) (ai (((vR.P (⟨nd,lk⟩:Net) (⟨vo,po,se,on⟩:cO) ((cG.P (⟨nd,lk⟩:Net) vo).1)).2) !=(0:Int)) (ai (((vR.P (⟨nd,lk⟩:Net) (⟨vo,po,se,on⟩:cO) ((cG.P (⟨nd,lk⟩:Net) vo).1)).2) !=(0:Int)) (some ((.bP [.cf 0,.cf 1,(.int .i64 ((vR.P (⟨nd,lk⟩:Net) (⟨vo,po,se,on⟩:cO) ((cG.P (⟨nd,lk⟩:Net) vo).1)).2))]),[(0,.rows .int ([]:ah Int)),(1,.rows .bool ([]:ah Bool))])) (some ((.bP [.cf 0,.cf 1,(.int .i64 ((vR.P (⟨nd,lk⟩:Net) (⟨vo,po,se,on⟩:cO) ((cG.P (⟨nd,lk⟩:Net) vo).1)).2))]),[(0,.rows .int ([]:ah Int)),(1,.rows .bool ((vR.P (⟨nd,lk⟩:Net) (⟨vo,po,se,on⟩:cO) ((cG.P (⟨nd,lk⟩:Net) vo).1)).1))]))) (aU ((gm (⟨nd,lk⟩:Net)&&bU l.length 90000)) (k1 t ((kq.P (⟨nd,lk⟩:Net) l ((cG.P (⟨nd,lk⟩:Net) vo).1) (⟨vo,po,se,((vR.P (⟨nd,lk⟩:Net) (⟨vo,po,se,on⟩:cO) ((cG.P (⟨nd,lk⟩:Net) vo).1)).1)⟩:cO)).1) (Int.ofNat (List.length ((kq.P (⟨nd,lk⟩:Net) l ((cG.P (⟨nd,lk⟩:Net) vo).1) (⟨vo,po,se,((vR.P (⟨nd,lk⟩:Net) (⟨vo,po,se,on⟩:cO) ((cG.P (⟨nd,lk⟩:Net) vo).1)).1)⟩:cO)).1))) (0:Int) ([]:ah Int) ((vR.P (⟨nd,lk⟩:Net) (⟨vo,po,se,on⟩:cO) ((cG.P (⟨nd,lk⟩:Net) vo).1)).1) ((kq.P (⟨nd,lk⟩:Net) l ((cG.P (⟨nd,lk⟩:Net) vo).1) (⟨vo,po,se,((vR.P (⟨nd,lk⟩:Net) (⟨vo,po,se,on⟩:cO) ((cG.P (⟨nd,lk⟩:Net) vo).1)).1)⟩:cO)).2))))))
def dR(eA:Int)(bA:ah Int)(cA:ah Bool)(dA:Int)(k1:Y1):R:=ai (bz eA gA) (aU (dV eA fA.length) (aU (lU eA.toNat fA.length) (ai (((ly.P (fA.getD eA.toNat bF) aA).2) !=(0:Int)) (ai (((ly.P (fA.getD eA.toNat bF) aA).2) !=(0:Int)) (some ((.bP [.cf 0,.cf 1,(.int .i64 ((ly.P (fA.getD eA.toNat bF) aA).2))]),[(0,.rows .int ([]:ah Int)),(1,.rows .bool ([]:ah Bool))])) (some ((.bP [.cf 0,.cf 1,(.int .i64 ((ly.P (fA.getD eA.toNat bF) aA).2))]),[(0,.rows .int bA),(1,.rows .bool cA)]))) (aU (bU ((List.length bA+List.length ([((ly.P (fA.getD eA.toNat bF) aA).1)]:ah Int))*8) 140737488355328&&bU (List.length bA+List.length ([((ly.P (fA.getD eA.toNat bF) aA).1)]:ah Int)) 9223372036854775807) (k1 aA fA gA (i64.wrap (eA+(1:Int))) (bA++([((ly.P (fA.getD eA.toNat bF) aA).1)]:ah Int)) cA ((ly.P (fA.getD eA.toNat bF) aA).2)))))) (ai (dA !=(0:Int)) (some (.bP [.cf 0,.cf 1,.int .i64 dA],[(0,.rows .int ([]:ah Int)),(1,.rows .bool ([]:ah Bool))])) (some (.bP [.cf 0,.cf 1,.int .i64 dA],[(0,.rows .int bA),(1,.rows .bool cA)])))
abbrev it:=nO X bd an RR
def RF:=it eE [1,1,1,1,1,0,1,0,0] (cu 0 (λbx=>exec X (oM [1,1,1,1,1,1] bd) .d bx RR nE RR) nE)
def f1:Nat->Y1
 |0=>λ_ _ _ _ _ _ _=>none
 |n+1=>λaA fA gA eA bA cA dA=>dR aA fA gA eA bA cA dA (f1 n)
def f0(on:ah Bool)(en:Int):R:=cX l t nd lk vo po se on en (f1 100000)
theorem T1:∀n,(λaA fA gA eA bA cA dA=>RF n (Rb aA fA gA eA bA cA dA))=f1 n:=by
 intro n;induction n with
 |zero=>rfl
 |succ n ih=>funext aA fA gA eA bA cA dA;rw[f1];rw[<-ih];exact aa
theorem H1:(λaA fA gA eA bA cA dA=>hid (RF 100000) (Rb aA fA gA eA bA cA dA))=f1 100000:=by rw[cM];exact(T1 100000)
theorem run(on)(en):exec X bd an ⟨[(1,.au .dj l),(3,.int .i64 t),(4,.ptr 1000000000 0),(6,.ptr 1000000001 0),(8,.ptr 1000000002 0),(9,.ptr 1000000003 0),(10,.ptr 1000000004 0)],[(1000000000,.box 1000000000 [.au .node nd,.au .link lk]),(1000000001,.box 1000000001 [.au .int vo,.au .int po,.au .int se,.au .bool on]),(1000000002,.box 1000000002 [.cL]),(1000000003,.box 1000000003 [.cL]),(1000000004,.box 1000000004 [.int .i64 en])]⟩ RR (λ_ _=>none) RR=f0 l t nd lk vo po se on en:=by unfold f0;rw[<-H1];exact aa
def fin(r:ah Int×Int)(on:ah Bool):R:=bif r.2 !=0 then some (.bP [.cf 0,.cf 1,.int .i64 r.2],[(0,.rows .int []),(1,.rows .bool [])])else some (.bP [.cf 0,.cf 1,.int .i64 0],[(0,.rows .int r.1),(1,.rows .bool on)])
theorem h_(qs:ah Int)(hl:qs.length<=90000)(on:ah Bool): ∀(m i:Nat) (out:ah Int),qs.length<m+i->i<=qs.length->out.length<=i->f1 m t qs (Int.ofNat qs.length) (i:Int) out on 0=fin (fC.wl t (qs.drop i) out) on:=by
 intro m;induction m with
 |zero=>intro i out h1 h2;omega
 |succ m ih=>
  intro i out h1 h2 h3;show dR t qs (Int.ofNat qs.length) (i:Int) out on 0 (f1 m)=_;unfold dR;by_cases hi:i<qs.length
  ·have e:List.getD qs (Int.toNat (i:Int)) bF=qs[i]:=by rw[toNat_nat,bQ hi]
   rw[eh (by simpa using hi),c9 hi,pw (show Int.toNat (i:Int)<qs.length by simpa using hi),e,fK hi,eY i ab]
   simp only[ee,eZ]
   show _=fin (bif(ly.P qs[i] t).2 !=0 then([],(ly.P qs[i] t).2)else fC.wl t (qs.drop (i+1)) (out++[(ly.P qs[i] t).1])) on;cases e1:(ly.P qs[i] t).2 !=0 with
   |true=>
    simp only[ee,cond_true]
    unfold fin;rw[e1]
    rfl
   |false=>
    have e0:(ly.P qs[i] t).2=0:=by simpa using e1
    rw[xq ab,e0]
    simp only[gy,eZ,cond_false]
    exact ih (i+1) _ ab hi (by simp;omega)
  ·have:i=qs.length:=ab
   subst this;rw[dF ae,bH]
   rfl
theorem aw(nd:ah Node)(lk:ah cJ)(l:ah cK)(s:cO)(t en:Int)(h:(gm ⟨nd,lk⟩&&bU l.length 90000)=true):f0 l t nd lk s.fH s.gw s.dH s.ik en=
 some (.bP [.cf 0,.cf 1,.int .i64 (fC.P ⟨nd,lk⟩ l s t).2.2],[(0,.rows .int (fC.P ⟨nd,lk⟩ l s t).1),(1,.rows .bool (fC.P ⟨nd,lk⟩ l s t).2.1)]):=by
 obtain⟨h1,h2⟩:=aZ.1 h;show cX l t nd lk s.fH s.gw s.dH s.ik en (f1 100000)=_;unfold cX fC.P;rw[h1]
 simp only[eZ]
 cases e1:(cG.P ⟨nd,lk⟩ s.fH).2 !=0 with
 |true=>rfl
 |false=>
  simp only[gy,cond_false]
  show aU true (ai ((vR.P ⟨nd,lk⟩ s (cG.P ⟨nd,lk⟩ s.fH).1).2 !=0) _ (aU _ (f1 100000 t (kq.P ⟨nd,lk⟩ l (cG.P ⟨nd,lk⟩ s.fH).1 ⟨s.fH,s.gw,s.dH,(vR.P ⟨nd,lk⟩ s (cG.P ⟨nd,lk⟩ s.fH).1).1⟩).1 (Int.ofNat (kq.P ⟨nd,lk⟩ l (cG.P ⟨nd,lk⟩ s.fH).1 ⟨s.fH,s.gw,s.dH,(vR.P ⟨nd,lk⟩ s (cG.P ⟨nd,lk⟩ s.fH).1).1⟩).1.length) 0 [] (vR.P ⟨nd,lk⟩ s (cG.P ⟨nd,lk⟩ s.fH).1).1 (kq.P ⟨nd,lk⟩ l (cG.P ⟨nd,lk⟩ s.fH).1 ⟨s.fH,s.gw,s.dH,(vR.P ⟨nd,lk⟩ s (cG.P ⟨nd,lk⟩ s.fH).1).1⟩).2)))=_;refine(eZ _).trans ?_;generalize vR.P ⟨nd,lk⟩ s (cG.P ⟨nd,lk⟩ s.fH).1=on;cases e2:on.2 !=0 with
  |true=>rfl
  |false=>
   refine(gy _ _).trans ?_;rw[h2]
   refine(eZ _).trans ?_;have k3:=kq.wy (n:=⟨nd,lk⟩) (l:=l) (v:=(cG.P ⟨nd,lk⟩ s.fH).1) (s:=⟨s.fH,s.gw,s.dH,on.1⟩) h;generalize kq.P ⟨nd,lk⟩ l (cG.P ⟨nd,lk⟩ s.fH).1 ⟨s.fH,s.gw,s.dH,on.1⟩=fl at k3⊢;have hb:lk.length<=90000:=ia (p_ h1)
   cases e3:fl.2 !=0 with
   |true=>
    have:=k3.2 (by simpa using e3)
    rw[this]
    show dR t [] 0 0 [] on.1 fl.2 (f1 99999)=_;unfold dR;refine(OD rfl).trans ?_;rw[e3]
    rfl
   |false=>
    have z:=k3.1 (by simpa using e3)
    rw[show fl.2=0 by simpa using e3]
    refine(h_ t fl.1 (by rw[z];exact hb) on.1 100000 0 [] (by rw[z];show lk.length<_;omega) (eS _) (eS _)).trans ?_;rw[fq]
    unfold fin;cases e4:(fC.wl t fl.1 []).2 !=0<;>rfl
end kR
namespace OV
def Left(B:Bd)(S0:Nat->Prop)(w0:World)(l0 l1 l2:Loc)(k:bn U El)(r:Fin U El):Ending->FrameMode->World->Prop:=λe u w'=>
 (∃v,e=.returned v)/\u=.returning/\∃S' ρ' H',Fr B w0 w'/\(∀b,w'.heap.size<=b->B.own b)/\(∀b,S0 b->S' b)/\(∀b,S' b->S0 b\/B.own b)/\fa E S' ρ' w' B H'/\ρ' 1000000002=some l0/\ρ' 1000000003=some l1/\ρ' 1000000004=some l2/\
  k ⟨[(8,.ptr 1000000002 0),(9,.ptr 1000000003 0),(10,.ptr 1000000004 0)],H'⟩=some r
theorem Vm:bp prog (JJ kR.X):=fV lq (ss _) pD
theorem jE:kZ prog (JJ kR.X):=λg sp h=>by cases h
theorem spec{B:Bd}{S0:Nat->Prop}{w0:World}{S:Nat->Prop}{ρ:eJ}{H:bI U El}{w:World}{l0 l1 l2:Loc}{k:bn U El}{r:Fin U El}
 (sq:Fr B w0 w) (hB:∀b,w.heap.size<=b->B.own b) (hs0:∀b,S0 b->S b) (hs1:∀b,S b->S0 b\/B.own b) (hg:∀w',Fr B w0 w'->E.G w') (hh:fa E S ρ w B H)
 (h0:ρ 1000000002=some l0) (h1:ρ 1000000003=some l1) (h2:ρ 1000000004=some l2) (p0:B.jZ 1000000002=some l0) (p1:B.jZ 1000000003=some l1) (p2:B.jZ 1000000004=some l2)
 (hr:exec (JJ kR.X) (dG f235) Rd ⟨[(0,.ptr 1000000004 0),(1,.ptr 1000000002 0),(2,.ptr 1000000003 0)],H⟩ (EM k) (λ_ _=>none) (EM k)=some r):
 CallsD prog 235 #[.pointer (some ⟨l2.b,0,none⟩),.pointer (some ⟨l0.b,0,none⟩),.pointer (some ⟨l1.b,0,none⟩)] .returning w (Left B S0 w0 l0 l1 l2 k r):=by
 refine callsD_of_wpS func235 (c:=dG f235) rfl λc₀ cs hu=>?_
 refine wpS_of_wp ?_;generalize hA:(Act.mk _ _:Act)=A;have t0:A.tmps.getD 0 undef=.pointer (some ⟨l2.b,0,none⟩):=by subst hA;simp[Array.replicate]
 have t1:A.tmps.getD 1 undef=.pointer (some ⟨l0.b,0,none⟩):=by subst hA;simp[Array.replicate]
 have t2:A.tmps.getD 2 undef=.pointer (some ⟨l1.b,0,none⟩):=by subst hA;simp[Array.replicate]
 have Z9:A.tmps.size=5:=by subst hA;simp[ntmps235]
 have Z_:A.defers=[]:=by subst hA;rfl
 clear hA;obtain⟨Bc,xY⟩:∃Bc:Bd,Bc=⟨B.own,B.jZ,[]⟩:=⟨_,rfl⟩
 have mq:bK (JJ kR.X) Bc S0 w0 ⟨[(0,.ptr 1000000004 0),(1,.ptr 1000000002 0),(2,.ptr 1000000003 0)],H⟩ A w:=by
  refine⟨S,ρ,by rw[xY];exact Z_,Z9,by rw[xY];exact sq.mono λ_ h=>h,by rw[xY];exact hB,hs0,by rw[xY];exact hs1,λw' h=>by rw[xY]at h;exact hg w' (h.mono λ_ h=>h),λi=>?_,by rw[xY];exact hh.df (B:=B) []⟩
  by_cases i0:i=0
  ·subst i0;rw[t0];exact .ptr _ _ _ h2
  ·by_cases i1:i=1
   ·subst i1;rw[t1];exact .ptr _ _ _ h0
   ·by_cases i2:i=2
    ·subst i2;rw[t2];exact .ptr _ _ _ h1
    ·have:cC ([(0,.ptr 1000000004 0),(1,.ptr 1000000002 0),(2,.ptr 1000000003 0)]:eH U El) i=.any:=by
      simp only[cC]
      rw[aO (cq i0),aO (cq i1),aO (cq i2)]
      rfl
     show Rel E S ρ w (cC ([(0,.ptr 1000000004 0),(1,.ptr 1000000002 0),(2,.ptr 1000000003 0)]:eH U El) i) _;rw[this]
     exact .any _
 have fin:∀bx a' w',bK (JJ kR.X) Bc S0 w0 bx a' w'->EM k bx=some r->a'.defers=[]/\∃S' ρ' H',Fr B w0 w'/\(∀b,w'.heap.size<=b->B.own b)/\(∀b,S0 b->S' b)/\(∀b,S' b->S0 b\/B.own b)/\fa E S' ρ' w' B H'/\ρ' 1000000002=some l0/\ρ' 1000000003=some l1/\ρ' 1000000004=some l2/\
  k ⟨[(8,.ptr 1000000002 0),(9,.ptr 1000000003 0),(10,.ptr 1000000004 0)],H'⟩=some r:=by
  rintro bx a' w' ⟨S',ρ',hi⟩ hk;unfold EM at hk;split at hk;case h_2=>cases hk
  rename_i q0 c0 q1 c1 q2 c2 e0 e1 e2;obtain⟨hc,yw⟩:=aQ hk;simp only[aj]at hc;obtain⟨hc1,hc2,hc3⟩:=hc;obtain rfl:=al hc1;obtain rfl:=al hc2;obtain rfl:=al hc3;have vU:Bc.jZ=B.jZ:=by rw[xY]
  have at_:∀id cs,id≠0->aN bx.h id=some (.box id cs)->∀l',B.jZ id=some l'->ρ' id=some l':=λid cs gn qQ l' hp=>by
   obtain⟨l3,k1,k2,_⟩:=hi.heap.get id _ qQ;rcases k2 with k2|k2
   ·exact absurd k2 gn
   ·rw[vU,hp]at k2;cases k2;exact k1
  have hb:=hi.below;have vj:=hi.hB;have hb3:=hi.s1;have Ol:=hi.heap;rw[xY]at hb vj hb3 Ol;exact⟨by rw[hi.defers,xY],S',ρ',bx.h,hb.mono λ_ h=>h,vj,hi.s0,hb3,Ol.RV,at_ _ _ af e0 l0 p0,at_ _ _ af e1 l1 p1,at_ _ _ af e2 l2 p2,yw⟩
 have fJ:∀tmps w',(results f235 tmps).run prog w'=.ok (.tuple #[]) w':=λtmps w'=>by simp[results,results235]
 refine mw (r:=r) rfl Vm jE (dG f235) Rd _ (EM k) (λ_ _=>none) (EM k) A w _ (λbx a' w' hs hk=>?_) (λi st a w _ k=>by cases k) (λbx a' w' hs hk=>?_) mq hr
 ·obtain⟨g1,g2⟩:=fin bx a' w' hs hk;exact⟨g1,_,rfl,_,fJ _ _,⟨_,rfl⟩,hu,g2⟩
 ·obtain⟨g1,g2⟩:=fin bx a' w' hs hk;exact⟨g1,_,rfl,_,fJ _ _,⟨_,rfl⟩,hu,g2⟩
end OV
theorem Ck{X:Ctx U El}(hX:bp prog X){B:Bd}{S0:Nat->Prop}{w0:World}{res ex:ah Nat}{v:AV U El}{h:bI U El}(hex:ex.Nodup){bx:St U El}{a':Act}{w':World}(hs:bK X B S0 w0 bx a' w')(hr:ch res ex bx=some (v,h)):
 ∃S' ρ',Fr B w0 w'/\(∀b,S0 b->S' b)/\(∀b,S' b->S0 b\/B.own b)/\fa X.E S' ρ' w' B h/\Rel X.E S' ρ' w' v (wT a'.tmps res):=by
 have Aa:∀(l:ah (Nat×Nat)) (H r:bI U El),Bo H l=some r->∀j b,aN r j=some b->∃id u xs,(id,j)∈l/\b=.rows u xs/\aN H id=some (.rows u xs):=by
  intro l;induction l with
  |nil=>intro H r hr j b hg;simp[Bo]at hr;subst hr;cases hg
  |cons p l ih=>
   intro H r hr j b hg;obtain⟨id,m⟩:=p;simp only[Bo]at hr;split at hr
   ·rename_i u xs kY;split at hr
    ·rename_i r' nP;cases hr;simp only[aN]at hg;by_cases e:m=j
     ·subst e;rw[aG]at hg;cases hg;exact⟨id,u,xs,ae,rfl,kY⟩
     ·rw[aO e]at hg;obtain⟨j6,u',M5,g1,g2,g3⟩:=ih H r' nP j b hg;exact⟨j6,u',M5,by simp[g1],g2,g3⟩
    ·cases hr
   ·cases hr
 have nV:∀(l:ah Nat) (n id m:Nat),(id,m)∈jU l n->n<=m/\l[m-n]?=some id:=by
  intro l;induction l with
  |nil=>intro n id m h;simp[jU]at h
  |cons i l ih=>
   intro n id m h;simp only[jU,bN,dw]at h;rcases h with⟨rfl,rfl⟩|h
   ·simp
   ·obtain⟨h1,h2⟩:=ih (n+1) id m h;exact⟨ab,by rw[show m-n=(m-(n+1))+1 by omega,ic];exact h2⟩
 have hfin:∀bx,ch res ex bx=some (v,h)->∃vs,Bn (jU ex 0) (res.map (cC bx.t))=some vs/\Bo bx.h (jU ex 0)=some h/\(∀x,vs=[x]->v=x)/\((∀x,vs≠[x])->v=.bP vs):=by
  intro bx hr;unfold ch at hr;split at hr
  ·rename_i x hh e1 e2;cases hr;exact⟨_,e1,e2,λy hy=>by cases hy;rfl,λhn=>absurd rfl (hn _)⟩
  ·rename_i vs hh e1 e2 e3;cases hr;exact⟨_,e2,e3,λy hy=>absurd hy (e1 y),λ_=>rfl⟩
  ·cases hr
 obtain⟨S',ρ',hi⟩:=hs;have Dc:=hi.heap;have J0:=hi.tmps;obtain⟨cs,e1,e2,e3,e4⟩:=hfin bx hr;refine⟨S',λm=>(ex[m]?).bind ρ',hi.below,hi.s0,hi.s1,?_,?_⟩
 ·refine⟨λj b hg=>?_,λi j b b' l l' kY lG gn oL lV hn oK=>?_,Dc.lt⟩
  ·obtain⟨id,u,xs,g1,rfl,g2⟩:=Aa _ _ _ e2 j b hg;obtain⟨_,g3⟩:=nV _ _ _ _ g1;obtain⟨l,hl,hb⟩:=Dc.get id _ g2;refine⟨l,by simp only[hJ]at g3;simp[g3,hl],?_⟩
   obtain⟨h1,h2,h3,h4⟩:=hb;refine⟨h1,h2,h3,λhn=>?_⟩
   obtain⟨h5,h6,c,hh,h7,h8⟩:=h4 hn;exact⟨h5,h6,c,hh,h7,λi x j a ku hj=>by obtain⟨vv,hv,hr⟩:=h8 i x j a ku hj;exact⟨vv,hv,hr.ew hX.u (hX.u.cell u x a (aD hj))⟩⟩
  ·obtain⟨id,u,xs,g1,_,g2⟩:=Aa _ _ _ e2 i b kY;obtain⟨j6,u',M5,k1,_,k2⟩:=Aa _ _ _ e2 j b' lG;obtain⟨_,g3⟩:=nV _ _ _ _ g1;obtain⟨_,k3⟩:=nV _ _ _ _ k1;simp only[hJ]at g3 k3;simp only[g3,k3,iK]at oL lV;refine Dc.inj id j6 _ _ l l' g2 k2 ?_ oL lV hn oK;rintro rfl;obtain⟨q1,q2⟩:=ak.1 g3;obtain⟨q3,q4⟩:=ak.1 k3;exact gn ((mS q1 hex).1 (g3.trans k3.symm))
 ·have one: ∀(t:Nat) (c:AV U El),ED (jU ex 0) (cC bx.t t)=some c->Rel X.E S' (λm=>(ex[m]?).bind ρ') w' c (a'.tmps.getD t undef):=by
   intro t c hc;have Jp:=J0 t;generalize a'.tmps.getD t undef=q at Jp⊢;unfold ED at hc;split at hc
   ·rename_i id e;rw[e]at Jp;split at hc
    ·rename_i p hp;cases hc;obtain⟨_,_,g⟩:=Aj _ _ _ _ hp;simp only[hJ]at g;cases Jp with
     |cf _ cap l hl h1 h2=>exact .cf _ cap l (by simp[g,hl]) h1 h2
     |j7 _ l hl h1 h2=>exact .j7 _ l (by simp[g,hl]) h1 h2
    ·cases hc
   ·rename_i yc e;rw[e]at Jp;cases hall:yc.all AV.cell with
    |false=>rw[hall]at hc;cases hc
    |true=>
     rw[hall]at hc;cases hc;cases Jp with
     |agg _ MO hl Ly=>exact .agg _ _ hl λi c v Fm WE=>(Ly i c v Fm WE).ew hX.u (by simp at hall;exact hall c (aD Fm))
   ·cases hcell:(cC bx.t t).cell with
    |false=>rw[hcell]at hc;cases hc
    |true=>rw[hcell]at hc;cases hc;exact Jp.ew hX.u hcell
  have all:∀(l:ah Nat) (ds:ah (AV U El)),Bn (jU ex 0) (l.map (cC bx.t))=some ds->ds.length=l.length/\∀(i:Nat) d t,ds[i]?=some d->l[i]?=some t->Rel X.E S' (λm=>(ex[m]?).bind ρ') w' d (a'.tmps.getD t undef):=by
   intro l;induction l with
   |nil=>intro ds h;simp[Bn]at h;subst h;simp
   |cons t l ih=>
    intro ds h;simp only[dx,Bn]at h;split at h
    ·rename_i d hd;split at h
     ·rename_i Mh Ab;cases h;obtain⟨g1,g2⟩:=ih Mh Ab;refine⟨by simp[g1],λi d' t' rZ AO=>?_⟩
      cases i with
      |zero=>simp at rZ AO;subst rZ AO;exact one _ _ hd
      |succ i=>exact g2 i d' t' (by simpa using rZ) (by simpa using AO)
     ·cases h
    ·cases h
  obtain⟨g1,g2⟩:=all res cs e1;match Lw:res,g1 with
  |[t],g1=>
   obtain⟨c,rfl⟩:∃c,cs=[c]:=by
    match cs,g1 with
    |[c],_=>exact⟨c,rfl⟩
   rw[e3 c rfl]
   exact g2 0 c t rfl rfl
  |[],g1=>
   have:cs=[]:=bq g1;subst this;rw[e4 ae]
   exact .bP _ _ ae ae
  |t::u::l,g1=>
   have gn:∀x,cs≠[x]:=λx hx=>by subst hx;simp at g1
   rw[e4 gn]
   refine .bP _ _ (by simp[g1]) λi c v hc hv=>?_
   have hl:i<(t::u::l).length:=by rw[<-g1];exact(ak.1 hc).1
   have:v=a'.tmps.getD ((t::u::l)[i]) undef:=by
    simp only[cZ,bo,az hl,eK,bX]at hv;exact hv.symm
   rw[this]
   exact g2 i c _ hc (az hl)
namespace OW
variable(l:ah cK)(t:Int)(nd:ah Node)(lk:ah cJ)(s:cO)
def bd:Code:=dG f168
def o1:Array Oper:=match oM [1,0] bd with|.region _ o _=>o|_=>#[]
theorem body:f168.body=some (.seq (oM [0] bd) (.seq (.region 1 o1 false) kR.bd)):=aa
def Fq:ah (TypeId×Value):=[(28,(t28.zero).getD (.int .i64 0)),(29,(t29.zero).getD (.int .i64 0)),(50,(t50.zero).getD (.int .i64 0))]
theorem V8:Iy prog E iH Fq eqs:=O1 aa ve aa (by
 intro p hp;simp only[Fq,bN,lK,or_false]at hp;rcases hp with rfl|rfl|rfl
 ·exact⟨t28,type28,rfl⟩
 ·exact⟨t29,type29,rfl⟩
 ·exact⟨t50,type50,rfl⟩) aa
def X:Ctx U El:=⟨E,iH,Fq,eqs,lr [],10,64,js [],λ_=>none,λ_=>none⟩
theorem ok:bp prog X:=fV V8 KE pD
theorem jE:kZ prog X:=λg sp h=>by cases h
theorem Wk:bp prog kR.X:=fV lq (ss _) pD
theorem Wl:kZ prog kR.X:=λg sp h=>by cases h
def KK(F:ah cK->Int->ah Node->ah cJ->ah Int->ah Int->ah Int->ah Bool->Int->R):bn U El:=λst=>match cC st.t 1,cC st.t 3,cC st.t 4,cC st.t 6,cC st.t 8,cC st.t 9,cC st.t 10,aN st.h 4,aN st.h 6,aN st.h 8,aN st.h 9,aN st.h 10 with
 |.au .dj l,.int .i64 t,.ptr i0 0,.ptr i1 0,.ptr i2 0,.ptr i3 0,.ptr i4 0,some (.box _ [.au .node nd,.au .link lk]),some (.box _ [.au .int vo,.au .int po,.au .int se,.au .bool on]),some (.box _ [.cL]),some (.box _ [.cL]),some (.box _ [.int .i64 en])=>
  aU (Nat.beq i0 4&&(Nat.beq i1 6&&(Nat.beq i2 8&&(Nat.beq i3 9&&Nat.beq i4 10)))) (F l t nd lk vo po se on en)
 |_,_,_,_,_,_,_,_,_,_,_,_=>none
theorem P1(vo po se:ah Int)(on:ah Bool)(F:ah cK->Int->ah Node->ah cJ->ah Int->ah Int->ah Int->ah Bool->Int->R):exec X (oM [0] bd) .d ⟨[(0,.agg [.au .node nd,.au .link lk]),(1,.au .dj l),(2,.agg [.au .int vo,.au .int po,.au .int se,.au .bool on]),(3,.int .i64 t)],[]⟩ (KK F) (λ_ _=>none) (λ_=>none)=F l t nd lk vo po se on 0:=aa
theorem q0:∃o,o1[0]?=some o/\o.op=.makeFunc (.func 235) #[] #[.tmp 10,.tmp 8,.tmp 9]/\o.guard=none/\o.dst=some 16:=⟨o1.getD 0 default,aa,aa,aa,aa⟩
theorem q1:∃o,o1[1]?=some o/\o.op=.defer ⟨.value (.tmp 16),#[],#[]⟩/\o.guard=none/\o.dst=none:=⟨o1.getD 1 default,aa,aa,aa,aa⟩
theorem So:o1.size=2:=aa
theorem DH{S:Nat->Prop}{ρ ρ':eJ}{w:World}{B B':Bd}{l:Loc}{t t':Nat}{cs:ah (AV U El)}(h:dt E S ρ w B l (.box t cs))(hc:∀c∈cs,c.cell=true)(hB:∀k,B.own k->B'.own k)(hp:B'.jZ t'=some l):dt E S ρ' w B' l (.box t' cs):=by
 obtain⟨_,h2,h3⟩:=h;refine⟨.inr hp,h2,λhn=>?_⟩
 obtain⟨g1,g2,c,e,g3,g4,g5⟩:=h3 hn;exact⟨hB _ g1,g2,c,e,g3,g4,λj a ha=>by obtain⟨v,hv,hr⟩:=g5 j a ha;exact⟨v,hv,hr.ew ve (hc a (aD ha))⟩⟩
theorem fin{B:Bd}{S:Nat->Prop}{w:World}{a':Act}{w':World}{v:AV U El}{h:bI U El}{S1:Nat->Prop}{nM:eJ}{H:bI U El}{l0 l1 l2:Loc}{xs:ah Int}{ys:ah Bool}(hh:h=[(0,.rows .int xs),(1,.rows .bool ys)])(gK: ∀k,B.own k->w.heap.size<=k)(hlt: ∀b,S b->b<w.heap.size)(MY:a'.defers=B.df)(hsz:a'.tmps.size=64)
 (b1:Fr B w w') (b2:∀b,w'.heap.size<=b->B.own b) (b3:∀b,S b->S1 b) (b4:∀b,S1 b->S b\/B.own b) (b5:∀x,Fr B w x->E.G x) (b6:fa E S1 nM w' B H) (r0:nM 1000000002=some l0) (r1:nM 1000000003=some l1) (r2:nM 1000000004=some l2)
 (t8:a'.tmps.getD 8 undef=.pointer (some ⟨l0.b,0,none⟩)) (t9:a'.tmps.getD 9 undef=.pointer (some ⟨l1.b,0,none⟩)) (t10:a'.tmps.getD 10 undef=.pointer (some ⟨l2.b,0,none⟩))
 (hr:(fz kR.X 64 [(8,28),(9,29),(10,50)] 64 ⟨[(8,.ptr 1000000002 0),(9,.ptr 1000000003 0),(10,.ptr 1000000004 0)],H⟩ λst=>cN kR.fM st (ch [64,65,66] [64,65]))=some (v,h)):
 ∃x,(results f168 a'.tmps).run prog w'=.ok x w'/\∃v' S' ρ',Ending.returned x=.returned v'/\Step S (λ_=>none) w S' ρ' w'/\fa E S' ρ' w' (From w) h/\Rel E S' ρ' w' v v':=by
 have hi:Inv kR.X B S w S1 nM ⟨[(8,.ptr 1000000002 0),(9,.ptr 1000000003 0),(10,.ptr 1000000004 0)],H⟩ a' w':=by
  refine⟨MY,hsz,b1,b2,b3,b4,b5,λi=>?_,b6⟩
  by_cases i0:i=8
  ·subst i0;rw[t8];exact .ptr _ _ _ r0
  ·by_cases i1:i=9
   ·subst i1;rw[t9];exact .ptr _ _ _ r1
   ·by_cases i2:i=10
    ·subst i2;rw[t10];exact .ptr _ _ _ r2
    ·have:cC ([(8,.ptr 1000000002 0),(9,.ptr 1000000003 0),(10,.ptr 1000000004 0)]:eH U El) i=.any:=by
      simp only[cC]
      rw[aO (cq i0),aO (cq i1),aO (cq i2)]
      rfl
     show Rel E S1 nM w' (cC ([(8,.ptr 1000000002 0),(9,.ptr 1000000003 0),(10,.ptr 1000000004 0)]:eH U El) i) _;rw[this]
     exact .any _
 obtain⟨sw,KB,k1,k2,k3,k4,k5⟩:=om (n0:=64) [(8,28),(9,29),(10,50)] kR.X _ a' Wk hi (aY _) hr;obtain⟨He,n1,n2⟩:=mG k4 ⟨S1,nM,k5⟩ k2;obtain⟨S2,su,c1,c2,c3,c4,c5⟩:=Ck (X:={kR.X with nt:=67}) k4 af n1 n2;refine⟨_,oZ (res:=[64,65,66]) (nt:=64) (lR:=[(8,28),(9,29),(10,50)]) aa hsz k1 k3,_,S2,su,rfl,⟨c1.mono gK,c2,λb hb=>(c3 b hb).imp id (gK b),λ_ _ h=>(by cases h),hlt⟩,⟨λid b hg=>?_,c4.inj,c4.lt⟩,c5⟩
 obtain⟨l,e1,e2⟩:=c4.get id b hg;refine⟨l,e1,?_⟩
 subst hh;simp only[aN]at hg;by_cases f0:0=id
 ·subst f0;rw[aG]at hg;cases hg;obtain⟨z1,z2,z3,z4⟩:=e2;exact⟨z1,z2,z3,λhn=>by obtain⟨y1,y2⟩:=z4 hn;exact⟨gK _ y1,y2⟩⟩
 ·rw[aO f0]at hg;by_cases f1:1=id
  ·subst f1;rw[aG]at hg;cases hg;obtain⟨z1,z2,z3,z4⟩:=e2;exact⟨z1,z2,z3,λhn=>by obtain⟨y1,y2⟩:=z4 hn;exact⟨gK _ y1,y2⟩⟩
  ·rw[aO f1]at hg;cases hg
theorem IG{P:Program}{ops:Array Oper}{Q:Exit->Act->World->Prop}{i:Nat}{K:Act->World->Prop}{a:Act}{w:World}{o:Oper}{v:Value}(ho:ops[i]?=some o)(hg:o.guard=none)(hr:(execOp a.eval o).run P w=.ok (.value v) w)(hk:K (a.put o.dst v) w):wpOp P ops Q i K a w:=by
 unfold wpOp;rw[ho]
 have hw:Region.wanted o (yielded ops a.tmps)=true:=by simp[Region.wanted,hg]
 simp only[hw,if_true]
 refine .inl ?_;unfold Oper.wp;rw[hr]
 exact hk
def RT:St U El:=⟨[(1,.au .dj l),(3,.int .i64 t),(4,.ptr 1000000000 0),(6,.ptr 1000000001 0),(8,.ptr 1000000002 0),(9,.ptr 1000000003 0),(10,.ptr 1000000004 0)],[(1000000000,.box 1000000000 [.au .node nd,.au .link lk]),(1000000001,.box 1000000001 [.au .int s.fH,.au .int s.gw,.au .int s.dH,.au .bool s.ik]),(1000000002,.box 1000000002 [.cL]),(1000000003,.box 1000000003 [.cL]),(1000000004,.box 1000000004 [.int .i64 0])]⟩
theorem spec(h:(gm ⟨nd,lk⟩&&bU l.length 90000)=true):
 cV prog E 168 [.agg [.au .node nd,.au .link lk],.au .dj l,.agg [.au .int s.fH,.au .int s.gw,.au .int s.dH,.au .bool s.ik],.int .i64 t]
  (.bP [.cf 0,.cf 1,.int .i64 (fC.P ⟨nd,lk⟩ l s t).2.2]) [(0,.rows .int (fC.P ⟨nd,lk⟩ l s t).1),(1,.rows .bool (fC.P ⟨nd,lk⟩ l s t).2.1)]:=by
 classical
 obtain⟨av,ZE⟩:∃av:Fin U El,av=(.bP [.cf 0,.cf 1,.int .i64 (fC.P ⟨nd,lk⟩ l s t).2.2],[(0,.rows .int (fC.P ⟨nd,lk⟩ l s t).1),(1,.rows .bool (fC.P ⟨nd,lk⟩ l s t).2.1)]):=⟨_,rfl⟩
 refine⟨call168,(λid b h=>?_),λS w vs hlt hG hr=>?_⟩
 ·simp only[aN]at h;by_cases f0:0=id
  ·omega
  ·rw[aO f0]at h;by_cases f1:1=id
   ·omega
   ·rw[aO f1]at h;cases h
 obtain⟨R0,ZF⟩:∃R0:Ending->World->Prop,R0=λe w'=>∃v S' ρ',e=.returned v/\Step S (λ_=>none) w S' ρ' w'/\fa E S' ρ' w' (From w) [(0,.rows .int (fC.P ⟨nd,lk⟩ l s t).1),(1,.rows .bool (fC.P ⟨nd,lk⟩ l s t).2.1)]/\Rel E S' ρ' w' (.bP [.cf 0,.cf 1,.int .i64 (fC.P ⟨nd,lk⟩ l s t).2.2]) v:=⟨_,rfl⟩
 rw[<-ZF]
 obtain⟨v0,v1,v2,v3,rfl⟩:∃v0 v1 v2 v3,vs=#[v0,v1,v2,v3]:=by
  have:=hr.1;match vs,this with
  |⟨[v0,v1,v2,v3]⟩,_=>exact⟨v0,v1,v2,v3,rfl⟩
 refine calls_of_wp_defers func168 body ?_;have wD:f168.ntmps=64:=aa
 obtain⟨a0,xX⟩:∃a0:Act,a0={tmps:=#[v0,v1,v2,v3]++Array.replicate (f168.ntmps- #[v0,v1,v2,v3].size) undef,defers:=[]}:=⟨_,rfl⟩
 have a0d:a0.defers=[]:=by rw[xX]
 have a0s:a0.tmps.size=64:=by rw[xX,wD];simp
 have a00:a0.tmps.getD 0 undef=v0:=by rw[xX];simp
 have a01:a0.tmps.getD 1 undef=v1:=by rw[xX];simp
 have a02:a0.tmps.getD 2 undef=v2:=by rw[xX];simp
 have a03:a0.tmps.getD 3 undef=v3:=by rw[xX];simp
 rw[<-xX]
 clear xX;have h0:bK X (From w) S w ⟨[(0,.agg [.au .node nd,.au .link lk]),(1,.au .dj l),(2,.agg [.au .int s.fH,.au .int s.gw,.au .int s.dH,.au .bool s.ik]),(3,.int .i64 t)],[]⟩ a0 w:=by
  refine⟨S,λ_=>none,a0d,a0s,Fr.refl _ _,λ_ hk=>hk,λ_ h=>h,λ_ h=>.inl h,λw' hb=>ve.Q7 _ _ hG hb.below,λi=>?_,fa.nil hlt _⟩
  by_cases e0:i=0
  ·subst e0;rw[a00];exact hr.2 0 _ v0 rfl rfl
  ·by_cases e1:i=1
   ·subst e1;rw[a01];exact hr.2 1 _ v1 rfl rfl
   ·by_cases e2:i=2
    ·subst e2;rw[a02];exact hr.2 2 _ v2 rfl rfl
    ·by_cases e3:i=3
     ·subst e3;rw[a03];exact hr.2 3 _ v3 rfl rfl
     ·have:cC ([(0,.agg [.au .node nd,.au .link lk]),(1,.au .dj l),(2,.agg [.au .int s.fH,.au .int s.gw,.au .int s.dH,.au .bool s.ik]),(3,.int .i64 t)]:eH U El) i=.any:=by
       simp only[cC]
       rw[aO (cq e0),aO (cq e1),aO (cq e2),aO (cq e3)]
       rfl
      show Rel E S _ w (cC ([(0,.agg [.au .node nd,.au .link lk]),(1,.au .dj l),(2,.agg [.au .int s.fH,.au .int s.gw,.au .int s.dH,.au .bool s.ik]),(3,.int .i64 t)]:eH U El) i) _;rw[this]
      exact .any _
 obtain⟨F,hF⟩:∃F:ah cK->Int->ah Node->ah cJ->ah Int->ah Int->ah Int->ah Bool->Int->R,F=λl' t' Wo Wr vo po se on en=>if l=l'/\t=t'/\nd=Wo/\lk=Wr/\s.fH=vo/\s.gw=po/\s.dH=se/\s.ik=on/\0=en then some av else none:=⟨_,rfl⟩
 have hv:=P1 l t nd lk s.fH s.gw s.dH s.ik F;have hv:_=some av:=hv.trans (by rw[hF];exact if_pos ⟨rfl,rfl,rfl,rfl,rfl,rfl,rfl,rfl,rfl⟩)
 refine wp_seq (mw (r:=av) rfl ok jE (oM [0] bd) _ _ _ (λ_ _=>none) (λ_=>none) _ w _ (λHe a3 w3 h3 k3=>?_) (λi st a w _ k=>by cases k) (λst a w _ k=>by cases k) h0 hv)
 clear hv h0;unfold KK at k3;split at k3;case h_2=>cases k3
 rename_i l' t' i0 i1 i2 i3 i4 T0 Wo Wr T1 vo po se on T2 T3 T4 en g1 g3 g4 g6 g8 g9 g10 e4 e6 e8 e9 RU;obtain⟨iu,k3⟩:=aQ k3;simp only[aj]at iu;obtain⟨c0,c1,c2,c3,c4⟩:=iu;obtain rfl:=al c0;obtain rfl:=al c1;obtain rfl:=al c2;obtain rfl:=al c3;obtain rfl:=al c4;have hall:l=l'/\t=t'/\nd=Wo/\lk=Wr/\s.fH=vo/\s.gw=po/\s.dH=se/\s.ik=on/\0=en:=by
  rw[hF]at k3;simp only at k3;split at k3
  ·assumption
  ·cases k3
 clear k3 hF;obtain⟨x0,x1,x2,x3,x4,x5,x6,x7,x8⟩:=hall;subst x0 x1 x2 x3 x4 x5 x6 x7 x8;obtain⟨S3,RZ,hi⟩:=h3;obtain⟨l0,m0,d0⟩:=hi.heap.get 4 _ e4;obtain⟨l1,m1,d1⟩:=hi.heap.get 6 _ e6;obtain⟨l2,m2,d2⟩:=hi.heap.get 8 _ e8;obtain⟨l3,m3,d3⟩:=hi.heap.get 9 _ e9;obtain⟨l4,m4,d4⟩:=hi.heap.get 10 _ RU;have v4:a3.tmps.getD 4 undef=.pointer (some ⟨l0.b,0,none⟩):=by
  have:=hi.tmps 4;rw[g4]at this;generalize a3.tmps.getD 4 undef=q at this;cases this with
  |ptr _ _ l hl=>rw[m0]at hl;cases hl;rfl
 have v6:a3.tmps.getD 6 undef=.pointer (some ⟨l1.b,0,none⟩):=by
  have:=hi.tmps 6;rw[g6]at this;generalize a3.tmps.getD 6 undef=q at this;cases this with
  |ptr _ _ l hl=>rw[m1]at hl;cases hl;rfl
 have v8:a3.tmps.getD 8 undef=.pointer (some ⟨l2.b,0,none⟩):=by
  have:=hi.tmps 8;rw[g8]at this;generalize a3.tmps.getD 8 undef=q at this;cases this with
  |ptr _ _ l hl=>rw[m2]at hl;cases hl;rfl
 have v9:a3.tmps.getD 9 undef=.pointer (some ⟨l3.b,0,none⟩):=by
  have:=hi.tmps 9;rw[g9]at this;generalize a3.tmps.getD 9 undef=q at this;cases this with
  |ptr _ _ l hl=>rw[m3]at hl;cases hl;rfl
 have v10:a3.tmps.getD 10 undef=.pointer (some ⟨l4.b,0,none⟩):=by
  have:=hi.tmps 10;rw[g10]at this;generalize a3.tmps.getD 10 undef=q at this;cases this with
  |ptr _ _ l hl=>rw[m4]at hl;cases hl;rfl
 have Yx:=hi.tmps 1;rw[g1]at Yx;have Yw:=hi.tmps 3;rw[g3]at Yw;refine wp_seq (wp_region ?_)
 rw[So]
 obtain⟨p0,_l,_j,_h,_n⟩:=q0;obtain⟨p1,_k,_i,_g,_m⟩:=q1;show wpOps prog o1 _ [0,1] a3 w3;rw[wpOps_cons]
 have r2:a3.eval (.tmp 8)=.pointer (some ⟨l2.b,0,none⟩):=v8;have r3:a3.eval (.tmp 9)=.pointer (some ⟨l3.b,0,none⟩):=v9;have r4:a3.eval (.tmp 10)=.pointer (some ⟨l4.b,0,none⟩):=v10;refine IG _l _h (v:=.func (.func 235) #[] #[.pointer (some ⟨l4.b,0,none⟩),.pointer (some ⟨l2.b,0,none⟩),.pointer (some ⟨l3.b,0,none⟩)]) (by simp[execOp,_j,Instr.makeFunc,r2,r3,r4]) ?_;rw[_n,wpOps_cons]
 obtain⟨a4,RO⟩:∃a4:Act,a4=a3.put (some 16) (.func (.func 235) #[] #[.pointer (some ⟨l4.b,0,none⟩),.pointer (some ⟨l2.b,0,none⟩),.pointer (some ⟨l3.b,0,none⟩)]):=⟨_,rfl⟩
 rw[<-RO]
 have a4s:a4.tmps.size=64:=by rw[RO];simp[Act.put];exact hi.size
 have a4d:a4.defers=[]:=by rw[RO];exact hi.defers
 have a4v:∀i,i≠16->a4.tmps.getD i undef=a3.tmps.getD i undef:=λi gn=>by
  rw[RO]
  simp only[Act.put,aH]
  rw[eb (cq gn)]
 have Yp:a4.eval (.tmp 16)=.func (.func 235) #[] #[.pointer (some ⟨l4.b,0,none⟩),.pointer (some ⟨l2.b,0,none⟩),.pointer (some ⟨l3.b,0,none⟩)]:=by
  have:16<a3.tmps.size:=by rw[hi.size];decide
  rw[RO];simp[Act.eval,Act.put,this]
 clear RO;unfold wpOp;rw[_k]
 have hw1:Region.wanted p1 (yielded o1 a4.tmps)=true:=by simp[Region.wanted,_g]
 simp only[hw1,if_true]
 refine .inl ?_;unfold Oper.wp;obtain⟨D,hD⟩:∃D:Deferred,D={target:=.fn (.func 235) #[.pointer (some ⟨l4.b,0,none⟩),.pointer (some ⟨l2.b,0,none⟩),.pointer (some ⟨l3.b,0,none⟩)],args:=#[]}:=⟨_,rfl⟩
 have hx1:(execOp a4.eval p1).run prog w3=.ok (.defer D) w3:=by
  rw[hD]
  simp[execOp,_i,resolve,Deferred.ofValue,Yp]
 rw[hx1,Oper.upon_defer,_m]
 show kR.bd.wp prog _ {a4 with defers:=D::a4.defers} w3;rw[a4d]
 obtain⟨a5,Uz⟩:∃a5:Act,a5={a4 with defers:=[D]}:=⟨_,rfl⟩
 rw[<-Uz]
 have a5s:a5.tmps.size=64:=by rw[Uz];exact a4s
 have a5d:a5.defers=[D]:=by rw[Uz]
 have Rs:∀i,i≠16->a5.tmps.getD i undef=a3.tmps.getD i undef:=λi gn=>by rw[Uz];exact a4v i gn
 clear Uz;obtain⟨jZ,vU⟩:∃jZ:eJ,jZ=λid=>if id=1000000000 then some l0 else if id=1000000001 then some l1 else if id=1000000002 then some l2 else if id=1000000003 then some l3 else if id=1000000004 then some l4 else none:=⟨_,rfl⟩
 have NH:jZ 1000000000=some l0:=by rw[vU];rfl
 have NG:jZ 1000000001=some l1:=by rw[vU];rfl
 have I3:jZ 1000000002=some l2:=by rw[vU];rfl
 have I2:jZ 1000000003=some l3:=by rw[vU];rfl
 have I1:jZ 1000000004=some l4:=by rw[vU];rfl
 obtain⟨B,hB⟩:∃B:Bd,B=⟨λk=>w.heap.size<=k,jZ,[D]⟩:=⟨_,rfl⟩
 have ZG:∀k,B.own k->w.heap.size<=k:=λk hk=>by rw[hB]at hk;exact hk
 have Eu:∀k,w.heap.size<=k->B.own k:=λk hk=>by rw[hB];exact hk
 have On:B.jZ=jZ:=by rw[hB]
 have ZH:B.df=[D]:=by rw[hB]
 clear hB vU
 have mq:bK kR.X B S w (RT l t nd lk s) a5 w3:=by
  refine⟨S3,jZ,a5d.trans ZH.symm,a5s,hi.below.mono Eu,λk hk=>Eu k (hi.hB k hk),hi.s0,λb hb=>(hi.s1 b hb).imp id (Eu b),λw' h=>hi.g0 w' (h.mono ZG),λi=>?_,⟨λid bb hb=>?_,λi j bi bj la lb kY lG gn Zs Em hn oK=>?_,hi.heap.lt⟩⟩
  ·by_cases f4:i=4
   ·subst f4;rw[Rs 4 af,v4];exact .ptr _ _ _ NH
   ·by_cases f6:i=6
    ·subst f6;rw[Rs 6 af,v6];exact .ptr _ _ _ NG
    ·by_cases f8:i=8
     ·subst f8;rw[Rs 8 af,v8];exact .ptr _ _ _ I3
     ·by_cases f9:i=9
      ·subst f9;rw[Rs 9 af,v9];exact .ptr _ _ _ I2
      ·by_cases f10:i=10
       ·subst f10;rw[Rs 10 af,v10];exact .ptr _ _ _ I1
       ·by_cases f1:i=1
        ·subst f1;rw[Rs 1 af];exact Yx.ew ve rfl
        ·by_cases f3:i=3
         ·subst f3;rw[Rs 3 af];exact Yw.ew ve rfl
         ·have:cC (RT l t nd lk s).t i=.any:=by
           simp only[RT,cC]
           rw[aO (cq f1),aO (cq f3),aO (cq f4),aO (cq f6),aO (cq f8),aO (cq f9),aO (cq f10)]
           rfl
          rw[this]
          exact .any _
  ·simp only[RT,aN]at hb;by_cases f0:1000000000=id
   ·subst f0;rw[aG]at hb;cases hb;exact⟨l0,NH,DH d0 (by simp[AV.cell]) Eu (by rw[On];exact NH)⟩
   ·rw[aO f0]at hb;by_cases f1:1000000001=id
    ·subst f1;rw[aG]at hb;cases hb;exact⟨l1,NG,DH d1 (by simp[AV.cell]) Eu (by rw[On];exact NG)⟩
    ·rw[aO f1]at hb;by_cases f2:1000000002=id
     ·subst f2;rw[aG]at hb;cases hb;exact⟨l2,I3,DH d2 (by simp[AV.cell]) Eu (by rw[On];exact I3)⟩
     ·rw[aO f2]at hb;by_cases f3:1000000003=id
      ·subst f3;rw[aG]at hb;cases hb;exact⟨l3,I2,DH d3 (by simp[AV.cell]) Eu (by rw[On];exact I2)⟩
      ·rw[aO f3]at hb;by_cases f4:1000000004=id
       ·subst f4;rw[aG]at hb;cases hb;exact⟨l4,I1,DH d4 (by simp[AV.cell]) Eu (by rw[On];exact I1)⟩
       ·rw[aO f4]at hb;cases hb
  ·have there: ∀id bb,aN (RT l t nd lk s).h id=some bb-> ∃q,(id,q)∈ [(1000000000,4),(1000000001,6),(1000000002,8),(1000000003,9),(1000000004,10)]/\(∃b',aN He.h q=some b')/\jZ id=RZ q:=λid bb hb=>by
    simp only[RT,aN]at hb;by_cases f0:1000000000=id
    ·subst f0;exact⟨4,ae,⟨_,e4⟩,by rw[NH,m0]⟩
    ·rw[aO f0]at hb;by_cases f1:1000000001=id
     ·subst f1;exact⟨6,ae,⟨_,e6⟩,by rw[NG,m1]⟩
     ·rw[aO f1]at hb;by_cases f2:1000000002=id
      ·subst f2;exact⟨8,ae,⟨_,e8⟩,by rw[I3,m2]⟩
      ·rw[aO f2]at hb;by_cases f3:1000000003=id
       ·subst f3;exact⟨9,ae,⟨_,e9⟩,by rw[I2,m3]⟩
       ·rw[aO f3]at hb;by_cases f4:1000000004=id
        ·subst f4;exact⟨10,ae,⟨_,RU⟩,by rw[I1,m4]⟩
        ·rw[aO f4]at hb;cases hb
   obtain⟨i',AP,⟨bi',xV⟩,hi3⟩:=there i bi kY;obtain⟨j',Ξ,⟨bj',Θ⟩,Δ⟩:=there j bj lG;rw[hi3]at Zs;rw[Δ]at Em;refine hi.heap.inj i' j' bi' bj' la lb xV Θ (λe=>gn ?_) Zs Em hn oK;subst e;simp only[bN,dw,lK,or_false]at AP Ξ;omega
 have de:=(kR.run l t nd lk s.fH s.gw s.dH s.ik 0).trans (kR.aw nd lk l s t 0 h)
 rw[<-ZE]at de;have UN:∀bx a' w',bK kR.X B S w bx a' w'->kR.RR bx=some av->Leaves prog f168 a'.tmps R0 a'.defers .returning w':=λbx a' w' hs hk=>by
  obtain⟨S1,nM,hj⟩:=hs;unfold kR.RR UX at hk;split at hk;case h_2=>cases hk
  rename_i j0 j1 j2 z0 y0 z1 y1 z2 y2 u0 u1 u2 b0 b1 b2;obtain⟨hc,yw⟩:=aQ hk;simp only[aj]at hc;obtain⟨hc0,hc1,hc2,hc3,hc4,hc5⟩:=hc;obtain rfl:=al hc0;obtain rfl:=al hc1;obtain rfl:=al hc2;obtain rfl:=al hc3;obtain rfl:=al hc4;obtain rfl:=al hc5;have at_:∀id cs,id≠0->aN bx.h id=some (.box id cs)->∀l',jZ id=some l'->nM id=some l':=λid cs gn qQ l' hp=>by
   obtain⟨q3,q1,q2,_⟩:=hj.heap.get id _ qQ;rcases q2 with q2|q2
   ·exact absurd q2 gn
   ·rw[On,hp]at q2;cases q2;exact q1
  have n0:=at_ _ _ af b0 l2 I3;have n1:=at_ _ _ af b1 l3 I2;have n2:=at_ _ _ af b2 l4 I1;have tp:∀i id l',cC bx.t i=.ptr id 0->nM id=some l'->a'.tmps.getD i undef=.pointer (some ⟨l'.b,0,none⟩):=λi id l' ht hl=>by
   have:=hj.tmps i;rw[ht]at this;generalize a'.tmps.getD i undef=q at this;cases this with
   |ptr _ _ l dq=>rw[hl]at dq;cases dq;rfl
  have hd:a'.defers=[D]:=by rw[hj.defers,ZH]
  rw[hd,hD]
  refine leaves_cons ae (f:=235) (args:=#[.pointer (some ⟨l4.b,0,none⟩),.pointer (some ⟨l2.b,0,none⟩),.pointer (some ⟨l3.b,0,none⟩)]) (by simp[invoke,call235]) ((OV.spec hj.below hj.hB hj.s0 hj.s1 hj.g0 hj.heap n0 n1 n2 (by rw[On];exact I3) (by rw[On];exact I2) (by rw[On];exact I1) yw).mono ?_)
  rintro e u' w2 ⟨⟨vv,rfl⟩,rfl,S5,ZZ,H',f1,f2,f3,f4,f5,f6,f7,f8,f9⟩
  rw[ZE]at f9;obtain⟨x,hx,v',S',ρ',he,Eh⟩:=fin rfl ZG hlt hj.defers hj.size f1 f2 f3 f4 hj.g0 f5 f6 f7 f8 (tp _ _ _ u0 n0) (tp _ _ _ u1 n1) (tp _ _ _ u2 n2) f9;show Leaves prog f168 a'.tmps R0 [] .returning w2;exact⟨x,hx,by rw[ZF];exact⟨v',S',ρ',he,Eh⟩⟩
 exact mw (r:=av) rfl Wk Wl kR.bd _ _ kR.RR (λ_ _=>none) kR.RR a5 w3 _ (λbx a' w' hs hk=>UN bx a' w' hs hk) (λi st a w _ k=>by cases k) (λbx a' w' hs hk=>UN bx a' w' hs hk) mq de
end OW
end
end Go.Proofs.YtfmamkmmohilgaaGreatDoor
namespace Go.Proofs.YtfmamkmmohilgaaGreatDoor
open Go.Proofs.Tryz IntKind
set_option linter.all false
noncomputable section
namespace fC
def g:ah (AV U El)->Option (Bool×AV U El×bI U El)
 |[.agg [.au .node a,.au .link b],.au .dj l,.agg [.au .int v,.au .int p,.au .int se,.au .bool on],.int .i64 t]=>
  some (gm ⟨a,b⟩&&bU l.length 90000,.bP [.cf 0,.cf 1,.int .i64 (P ⟨a,b⟩ l ⟨v,p,se,on⟩ t).2.2],[(0,.rows .int (P ⟨a,b⟩ l ⟨v,p,se,on⟩ t).1),(1,.rows .bool (P ⟨a,b⟩ l ⟨v,p,se,on⟩ t).2.1)])
 |_=>none
def sp:Sp U El:=ko g
theorem du:gQ prog E 168 sp where
 pe:=λvs=>by
  unfold sp ko;cases g vs with
  |none=>exact⟨none,λ_=>rfl⟩
  |some v=>exact kK _ _ _
 ok:=λvs k r h=>by
  unfold sp ko at h;unfold g at h;split at h
  ·rename_i e;split at e
   ·cases e;obtain⟨h1,h2⟩:=aQ h;exact⟨_,_,.inl (OW.spec _ _ _ _ ⟨_,_,_,_⟩ h1),h2⟩
   ·cases e
  ·cases h
end fC
end
end Go.Proofs.YtfmamkmmohilgaaGreatDoor
namespace Go.Proofs.YtfmamkmmohilgaaGreatDoor
open Go.Proofs.Tryz IntKind
set_option linter.all false
set_option maxRecDepth 100000
noncomputable section
def tj(am:ah ((ah UInt8)×Int))(c:r_):Bool:=(bg c.cl (gL fh am c.cn bF))==c.cb
def zC(x:Int):Bool:= !(bg 0 x&&bg x 1000)
namespace Yy
variable(x:r_)(am:ah ((ah UInt8)×Int))
def X:=dp [] 14
def f0:R:=aq ((bg x.cl (gL fh am x.cn bF))==x.cb)
theorem run:ca X (dG f233) .d (cS [3]) [3] [] [eA .fy x,.pcs [.sr .str .int am] 0]=f0 x am:=aa
theorem aw:f0 x am=aq (tj am x):=rfl
def g:ah (AV U El)->Option (AV U El)
 |[.agg [.str V0,.bool V2,.int .i64 V1],.pcs [.sr .str .int am] 0]=>some (.bool ((tj am) (⟨V0,V2,V1⟩:r_)))
 |_=>none
def c:Ct:=⟨233,dU g,oS call233 func233 λvs v h=>by
 unfold g at h;split at h;cases h;exact(run ⟨_,_,_⟩ _).trans (aw ⟨_,_,_⟩ _);cases h⟩
end Yy
namespace Se
def X:=dp [Yy.c] 19
def g:ah (AV U El)->Option (Bool×AV U El)
 |[.au .fy l,.fn 233 [] [.pcs [.sr .str .int am] 0]]=>some (bU l.length 90000,(.int .i64 (dM (tj am) 0 l)))
 |_=>none
def c:Ct:=⟨306,cj g,ir call306 func306 λvs v h e=>by
 unfold g at h;split at h;cases h;exact qt (X:=X) e aa (λ_ _ _=>aa) aa;cases h⟩
end Se
namespace Sf
def X:=dp [Se.c] 9
def g:ah (AV U El)->Option (Bool×AV U El)
 |[.au .fy l,.fn 233 [] [.pcs [.sr .str .int am] 0]]=>some (bU l.length 90000,(.bool (List.any l (tj am))))
 |_=>none
def c:Ct:=⟨232,cj g,ir call232 func232 λvs v h e=>by
 unfold g at h;split at h;cases h;exact cont (X:=X) e aa;cases h⟩
end Sf
namespace Km
variable(r:cT)(am:ah ((ah UInt8)×Int))
def X:=dp [Sf.c] 10
def f0:R:=aU (bU r.rw.length 90000) (aq (!(List.any r.rw (tj am))))
theorem run:ca X (dG f159) .d (cS [4]) [4] [] [eA .eG r,.sr .str .int am]=f0 r am:=aa
theorem aw(h:bU (List.length (cT.rw r)) 90000=true):f0 r am=aq (!(List.any (cT.rw r) (tj am))):=by unfold f0;rw[h];rfl
def c:Ct:=⟨159,cj (A2 (aR .eG) (bM .str .int) λr am=>((bU (List.length (cT.rw r)) 90000),(.bool (!(List.any (cT.rw r) (tj am)))))),ir call159 func159 (a2 λr am e_=>(run r am).trans (aw r am e_))⟩
end Km
namespace YE
variable(x:Int)
def X:=dp [Cg.c] 6
def f0:R:=aq (!(bg (0:Int) x&&bg x (1000:Int)))
theorem run:ca X (dG f157) .d (cS [2]) [2] [] [.int .i64 x]=f0 x:=aa
theorem aw:f0 x=aq (zC x):=rfl
def c:Ct:=⟨157,dU (A1 aI λx=>(.bool (zC x))),oS call157 func157 (a1 λx=>(run x).trans (aw x))⟩
end YE
namespace Sq
def X:=dp [YE.c] 19
def g:ah (AV U El)->Option (Bool×AV U El)
 |[.au .int l,.fn 157 [] []]=>some (bU l.length 90000,.int .i64 (dM zC 0 l))
 |_=>none
def c:Ct:=⟨173,cj g,ir call173 func173 λvs v h e=>by
 unfold g at h;split at h;cases h;exact qt (X:=X) e aa (λ_ _ _=>aa) aa;cases h⟩
end Sq
namespace Sr
def X:=dp [Sq.c] 9
def g:ah (AV U El)->Option (Bool×AV U El)
 |[.au .int l,.fn 157 [] []]=>some (bU l.length 90000,.bool (List.any l zC))
 |_=>none
def c:Ct:=⟨101,cj g,ir call101 func101 λvs v h e=>by
 unfold g at h;split at h;cases h;exact cont (X:=X) e aa;cases h⟩
end Sr
def below(N:Nat)(m:ah ((ah UInt8)×Int)):Prop:=∀s,qK fh m s=true->0<=gL fh m s bF/\gL fh m s bF<(N:Int)
theorem JS{N:Nat}{m:ah ((ah UInt8)×Int)}(h:below N m)(x:ah UInt8){i:Int}(h0:0<=i)(h1:i<(N:Int)):below N (qu fh m x i):=by
 intro s hs;unfold qK gL at*;rw[wY fh uN]at hs⊢;cases e:fh s x with
 |true=>simp only[cond_true,eL];exact⟨h0,h1⟩
 |false=>rw[e]at hs;simp only[cond_false]at hs⊢;exact h s hs
namespace ij
variable(Dg VU ZV AU Rx MM:bn U El)(cA:ah Int)(eB:Int)(hA:ah cT)(jA gA:Int)(l0 l:ah cT)(fA aA:ah Int)(nA:Bool)(lA:ah cT)(mA kA:Int)(rA:ah r_)(sA qA:Int)(oA:ah Node)(pA:ah cJ)(aB:ah Node)(n:Net)(v bf:ah Int)
def X:=dp [nS.c,valid.c,u7.c,Sr.c,Km.c] 160
def bd:=dG f92
def fM:Norm U:=⟨[],[8,9],[],[(8,.int)],[],[],[]⟩
def RR:bn U El:=λst=>cN fM st (ch [8,9] [])
def dI:Norm U:=⟨[],[0,3,5,10],[5,56],[],[],[],[(5,0,.node),(5,1,.link)]⟩
def jY:Norm U:=⟨[],[0,2,3,5,10,58,59,60],[5,56],[],[],[],[(5,0,.node),(5,1,.link)]⟩
def xT:Norm U:=⟨[],[0,3,10,13],[56,73],[],[],[],[]⟩
def wX:Norm U:=⟨[],[0,3,10,13,75,76,77],[56,73],[],[],[],[]⟩
def I9:Norm U:=⟨[],[0,3,10,13,87,88,89],[56,73],[],[],[],[]⟩
def Wn:Norm U:=⟨[],[0,3,10,13,19,87,88,89],[56,73],[],[],[],[]⟩
def F_:Norm U:=⟨[],[0,3,10,13,19,87,88,89,101,102,103],[56,73],[],[],[],[]⟩
def NS:Norm U:=⟨[(24,.int)],[24],[24],[],[],[],[]⟩
def I_:Norm U:=⟨[(24,.int)],[10,13,24,25,125,126,127],[24,56,73,124],[],[],[],[]⟩
def an:gb U:=(.seq none .d (.seq (some (⟨[],[0,2,3,5],[5],[],[],[],[(5,0,.node),(5,1,.link)]⟩)) .d (.seq none .d (.seq (some dI) (.seq none .d (.block (.loop jY (.seq none .d (.seq none .d (.seq none (.block (.seq none .d (.region [(7,56)]))) .d)))))) (.seq none .d (.seq (some xT) (.seq none .d (.block (.loop wX .d))) (.seq (some xT) (.seq none .d (.block (.loop I9 (.seq none .d (.seq none .d (.seq (some I9) (.block (.seq none .d (.seq none .d (.seq (some Wn) (.seq none .d (.block (.loop F_ (.seq none .d (.seq none .d (.seq (some F_) .d .d)))))) .d)))) .d)))))) (.seq none .d (.seq none .d (.seq (some NS) (.seq none .d (.block (.loop I_ (.seq none .d (.seq none .d (.seq (some I_) (.block (.seq none .d (.seq none .d (.seq none .d (.seq (some (⟨[(24,.int)],[10,13,24,25,27,28,125,126,127],[24,27,56,73,124],[],[],[],[(27,1,.fy)]⟩)) .d .d))))) .d)))))) .d))))))))))
abbrev Y1:=(ah cT)->(ah Int)->(ah Int)->(ah Node)->(ah cJ)->R
abbrev Y2:=(ah cT)->(ah Int)->(ah Node)->(ah cJ)->(ah ((ah UInt8)×Int))->R
abbrev Y3:=(ah cT)->(ah Int)->(ah Int)->(ah Node)->Int->Int->(ah Node)->(ah cJ)->(ah ((ah UInt8)×Int))->R
abbrev Y4:=(ah cT)->(ah Int)->(ah ((ah UInt8)×Int))->(ah ((ah UInt8)×Int))->R
abbrev Y5:=(ah cT)->(ah Int)->(ah cJ)->Int->Int->(ah ((ah UInt8)×Int))->(ah ((ah UInt8)×Int))->R
abbrev Y6:=(ah cT)->(ah Int)->(ah ((ah UInt8)×Int))->(ah ((ah UInt8)×Int))->R
abbrev Y7:=(ah cT)->(ah Int)->(ah cT)->Int->Int->(ah ((ah UInt8)×Int))->(ah ((ah UInt8)×Int))->R
abbrev Y8:=(ah cT)->(ah Int)->(ah cT)->Int->Int->(ah ((ah UInt8)×Int))->(ah ((ah UInt8)×Int))->R
abbrev Y9:=(ah cT)->(ah Int)->Bool->(ah cT)->Int->Int->(ah ((ah UInt8)×Int))->(ah ((ah UInt8)×Int))->R
abbrev Rt:=(ah cT)->(ah Int)->Bool->(ah cT)->Int->Int->(ah r_)->Int->Int->(ah ((ah UInt8)×Int))->(ah ((ah UInt8)×Int))->R
abbrev Vc:=(ah cT)->(ah Int)->Bool->(ah cT)->Int->Int->(ah r_)->Int->Int->(ah ((ah UInt8)×Int))->(ah ((ah UInt8)×Int))->R
abbrev Yq:=(ah Int)->R
abbrev RX:=(ah Int)->(ah cT)->Int->Int->(ah ((ah UInt8)×Int))->(ah ((ah UInt8)×Int))->(ah (Int×Bool))->R
abbrev ZU:=(ah Int)->(ah cT)->Int->Int->(ah ((ah UInt8)×Int))->(ah ((ah UInt8)×Int))->(ah (Int×Bool))->R
abbrev Y15:=(ah Int)->Int->(ah cT)->Int->Int->(ah UInt8)->(ah r_)->(ah UInt8)->Int->(ah ((ah UInt8)×Int))->(ah ((ah UInt8)×Int))->(ah (Int×Bool))->R
variable(zA:RX)(k7:Y7)
def nz(cB xA:Int)(oA:ah Node)(pA:ah cJ)(bA:ah ((ah UInt8)×Int)):St U El:=⟨[(0,.au .eG l0),(2,.au .int fA),(3,.au .int aA),(5,.ptr 5 0),(10,.mp 56),(58,.au .node aB),(59,.int .i64 cB),(60,.int .i64 xA)],[(5,.box 0 [.au .node oA,.au .link pA]),(56,.map .str .int bA)]⟩
def UG(bB:ah cJ)(dB yA:Int)(bA dA:ah ((ah UInt8)×Int)):St U El:=⟨[(0,.au .eG l0),(3,.au .int aA),(10,.mp 56),(13,.mp 73),(75,.au .link bB),(76,.int .i64 dB),(77,.int .i64 yA)],[(56,.map .str .int bA),(73,.map .str .int dA)]⟩
def L1(bA dA:ah ((ah UInt8)×Int)):St U El:=⟨[(0,.au .eG l0),(3,.au .int aA),(10,.mp 56),(13,.mp 73),(87,.au .eG lA),(88,.int .i64 mA),(89,.int .i64 kA)],[(56,.map .str .int bA),(73,.map .str .int dA)]⟩
def Ra(bA dA:ah ((ah UInt8)×Int)):St U El:=⟨[(0,.au .eG l0),(3,.au .int aA),(10,.mp 56),(13,.mp 73),(19,.bool nA),(87,.au .eG lA),(88,.int .i64 mA),(89,.int .i64 kA),(101,.au .fy rA),(102,.int .i64 sA),(103,.int .i64 qA)],[(56,.map .str .int bA),(73,.map .str .int dA)]⟩
def Ou(bA dA:ah ((ah UInt8)×Int))(iA:ah (Int×Bool)):St U El:=⟨[(10,.mp 56),(13,.mp 73),(24,.cf 24),(25,.mp 124),(125,.au .eG hA),(126,.int .i64 jA),(127,.int .i64 gA)],[(24,.rows .int cA),(56,.map .str .int bA),(73,.map .str .int dA),(124,.map .int .bool iA)]⟩
def cX(k1:Y1):R:=ai (!(lx l)) (some ((.bP [(.au .int ([]:ah Int)),.int .i64 (1:Int)]),[])) (aU (gm n) (ai (!(eR n)) (some ((.bP [(.au .int ([]:ah Int)),.int .i64 (1:Int)]),[])) (ai ((Int.ofNat v.length) !=(Int.ofNat n.ct.length)) (some ((.bP [(.au .int ([]:ah Int)),.int .i64 (3:Int)]),[])) (ai ((Int.ofNat bf.length) !=(Int.ofNat n.cD.length)) (some ((.bP [(.au .int ([]:ah Int)),.int .i64 (3:Int)]),[])) (aU (bU bf.length 90000) (ai (List.any bf zC) (some ((.bP [(.au .int ([]:ah Int)),.int .i64 (2:Int)]),[])) (k1 l v bf n.ct n.cD)))))))
def dR(k3:Y3):R:=k3 l0 fA aA oA (Int.ofNat oA.length) (0:Int) oA pA ([]:ah ((ah UInt8)×Int))
def dQ(oA:ah Node)(pA:ah cJ)(bA:ah ((ah UInt8)×Int))(k5:Y5):R:=k5 l0 aA pA (Int.ofNat pA.length) (0:Int) bA ([]:ah ((ah UInt8)×Int))
def gf(cB xA:Int)(oA:ah Node)(pA:ah cJ)(bA:ah ((ah UInt8)×Int))(k2:Y2)(k3:Y3):R:=ai (bz xA cB) (aU (dV xA aB.length) (aU (dV xA fA.length) (k3 l0 fA aA aB cB (i64.wrap (xA+(1:Int))) oA pA (qu fh bA ((aB.getD xA.toNat fU).nn) (fA.getD xA.toNat bF))))) (k2 l0 aA oA pA bA)
def l_(bA dA:ah ((ah UInt8)×Int))(k7:Y7):R:=k7 l0 aA l0 (Int.ofNat l0.length) (0:Int) bA dA
def sk(bB:ah cJ)(dB yA:Int)(bA dA:ah ((ah UInt8)×Int))(k4:Y4)(k5:Y5):R:=ai (bz yA dB) (aU (dV yA bB.length) (k5 l0 aA bB dB (i64.wrap (yA+(1:Int))) bA (qu fh dA ((bB.getD yA.toNat dz).ln) yA))) (k4 l0 aA bA dA)
def pQ(bA dA:ah ((ah UInt8)×Int))(zA:RX):R:=aU (bU aA.length 90000) (zA (aA) l0 (Int.ofNat l0.length) (0:Int) bA dA ([]:ah (Int×Bool)))
def wS(bA dA:ah ((ah UInt8)×Int))(k6:Y6)(fB:Rt):R:=ai (bz kA mA) (aU (dV kA lA.length) (fB l0 aA (qK fh dA ((lA.getD kA.toNat gJ).rl)) lA mA kA ((lA.getD kA.toNat gJ).rw) (Int.ofNat (List.length ((lA.getD kA.toNat gJ).rw))) (0:Int) bA dA)) (k6 l0 aA bA dA)
def BF(bA dA:ah ((ah UInt8)×Int))(k7:Y7):R:=k7 l0 aA lA mA (i64.wrap (kA+(1:Int))) bA dA
def RB(nA:Bool)(lA:ah cT)(mA kA:Int)(bA dA:ah ((ah UInt8)×Int))(k8:Y8):R:=ai (!nA) (some ((.bP [(.au .int ([]:ah Int)),.int .i64 (9:Int)]),[])) (k8 l0 aA lA mA kA bA dA)
def FF(bA dA:ah ((ah UInt8)×Int))(k9:Y9)(Ph:Vc):R:=ai (bz qA sA) (aU (dV qA rA.length) (ai nA (Ph l0 aA (qK fh bA ((rA.getD qA.toNat Aq).cn)) lA mA kA rA sA qA bA dA) (Ph l0 aA false lA mA kA rA sA qA bA dA))) (k9 l0 aA nA lA mA kA bA dA)
def KH(bA dA:ah ((ah UInt8)×Int))(fB:Rt):R:=fB l0 aA nA lA mA kA rA sA (i64.wrap (qA+(1:Int))) bA dA
def KG:R:=some ((.bP [.au .int cA,.int .i64 (0:Int)]),[])
def PO(bA dA:ah ((ah UInt8)×Int))(iA:ah (Int×Bool))(Tz:Yq)(Ty:ZU)(Vp:Y15):R:=ai (bz gA jA) (aU (dV gA hA.length) (aU (bU (List.length (cT.rw (hA.getD gA.toNat gJ))) 90000) (ai (!(!(List.any (cT.rw (hA.getD gA.toNat gJ)) (tj bA)))) (Ty cA hA jA gA bA dA iA) (ai (gL CC iA (gL fh dA ((hA.getD gA.toNat gJ).rl) bF) jz) (aU (dV (gL fh dA ((hA.getD gA.toNat gJ).rl) bF) cA.length) (aU (lU (Int.toNat (gL fh dA ((hA.getD gA.toNat gJ).rl) bF)) cA.length) (ai ((List.getD cA (Int.toNat (gL fh dA ((hA.getD gA.toNat gJ).rl) bF)) bF) !=(hA.getD gA.toNat gJ).rs) (some ((.bP [(.au .int ([]:ah Int)),.int .i64 (26:Int)]),[])) (Vp cA (gL fh dA ((hA.getD gA.toNat gJ).rl) bF) hA jA gA ((hA.getD gA.toNat gJ).rn) ((hA.getD gA.toNat gJ).rw) ((hA.getD gA.toNat gJ).rl) ((hA.getD gA.toNat gJ).rs) bA dA iA)))) (Vp cA (gL fh dA ((hA.getD gA.toNat gJ).rl) bF) hA jA gA ((hA.getD gA.toNat gJ).rn) ((hA.getD gA.toNat gJ).rw) ((hA.getD gA.toNat gJ).rl) ((hA.getD gA.toNat gJ).rs) bA dA iA))))) (Tz cA)
def Wa(bA dA:ah ((ah UInt8)×Int))(iA:ah (Int×Bool))(zA:RX):R:=zA cA hA jA (i64.wrap (gA+(1:Int))) bA dA iA
def PN(uA:ah UInt8)(vA:ah r_)(wA:ah UInt8)(tA:Int)(bA dA:ah ((ah UInt8)×Int))(iA:ah (Int×Bool))(Ty:ZU):R:=aU (dV eB cA.length) (aU (lU eB.toNat cA.length&&true) (Ty (List.set cA eB.toNat tA) hA jA gA bA dA (qu CC iA eB true)))
abbrev ex:=kf X bd an RR
abbrev it:=nO X bd an RR
def nU(iP:bn U El):=it jY [1,1,1,0,1,0,0] (cu 1 (bG dI iP) nE)
def TA(Ff:bn U El):=it wX [1,1,1,1,1,0,1,0,0] (cu 3 (bG xT Ff) nE)
def Qo:=it I9 [1,1,1,1,1,1,0,1,0,0] (cu 5 (bG xT Dg) nE)
def Qp:=it F_ [1,1,1,1,1,1,0,1,0,0,1,1,0,0,1,1,0,1,0,0] (cu 7 (bG Wn ZV) (cu 6 (bG I9 VU) (cu 5 (bG xT Dg) nE)))
def N5:=it I_ [1,1,1,1,1,1,1,1,1,0,1,0,0] (cu 9 (bG NS Rx) nE)
def cQ:=ex [1,1] RR nE
def ib:=ex [1,1,1,1] RR nE
def pH:=ex [1,1,1,1,1,1] RR nE
def ui:=ex [1,1,1,1,1,1,1] RR nE
def B5(OT:bn U El):=ex [1,1,1,1,1,1,0,1,0,0,1,1,1] (bG I9 OT) (cu 5 (bG xT Dg) nE)
def Ri:=ex [1,1,1,1,1,1,0,1,0,0,1,1,0,0,1,1,1] (bG I9 VU) (cu 6 (bG I9 VU) (cu 5 (bG xT Dg) nE))
def Yk(Ry:bn U El):=ex [1,1,1,1,1,1,0,1,0,0,1,1,0,0,1,1,0,1,0,0,1,1,1] (bG F_ Ry) (cu 7 (bG Wn ZV) (cu 6 (bG I9 VU) (cu 5 (bG xT Dg) nE)))
def Br:=ex [1,1,1,1,1,1,1,1,1,1] RR nE
def UZ(Yr:bn U El):=ex [1,1,1,1,1,1,1,1,1,0,1,0,0,1,1,1] (bG I_ Yr) (cu 9 (bG NS Rx) nE)
def Yj(Ve:bn U El):=ex [1,1,1,1,1,1,1,1,1,0,1,0,0,1,1,0,0,1,1,1,1] (bG I_ Ve) (cu 10 (bG I_ Ve) (cu 9 (bG NS Rx) nE))
def f12:R:=KG cA
def f14(zA:RX)(cA:ah Int)(hA:ah cT)(jA gA:Int)(bA:ah ((ah UInt8)×Int))(dA:ah ((ah UInt8)×Int))(iA:ah (Int×Bool)):R:=Wa cA hA jA gA bA dA iA zA
def f15(zA:RX)(cA:ah Int)(eB:Int)(hA:ah cT)(jA gA:Int)(uA:ah UInt8)(vA:ah r_)(wA:ah UInt8)(tA:Int)(bA:ah ((ah UInt8)×Int))(dA:ah ((ah UInt8)×Int))(iA:ah (Int×Bool)):R:=PN cA eB hA jA gA uA vA wA tA bA dA iA (f14 zA)
def f13:Nat->RX
 |0=>λ_ _ _ _ _ _ _=>none
 |n+1=>λcA hA jA gA bA dA iA=>PO cA hA jA gA bA dA iA f12 (f14 (f13 n)) (f15 (f13 n))
def f6(bA dA:ah ((ah UInt8)×Int)):R:=pQ l0 aA bA dA (f13 100000)
def f8(k7:Y7)(l0:ah cT)(aA:ah Int)(lA:ah cT)(mA kA:Int)(bA:ah ((ah UInt8)×Int))(dA:ah ((ah UInt8)×Int)):R:=BF l0 aA lA mA kA bA dA k7
def f9(k7:Y7)(l0:ah cT)(aA:ah Int)(nA:Bool)(lA:ah cT)(mA kA:Int)(bA:ah ((ah UInt8)×Int))(dA:ah ((ah UInt8)×Int)):R:=RB l0 aA nA lA mA kA bA dA (f8 k7)
def f11(k7:Y7)(fB:Rt)(l0:ah cT)(aA:ah Int)(nA:Bool)(lA:ah cT)(mA kA:Int)(rA:ah r_)(sA qA:Int)(bA:ah ((ah UInt8)×Int))(dA:ah ((ah UInt8)×Int)):R:=KH l0 aA nA lA mA kA rA sA qA bA dA fB
def f10(k7:Y7):Nat->Rt
 |0=>λ_ _ _ _ _ _ _ _ _ _ _=>none
 |n+1=>λl0 aA nA lA mA kA rA sA qA bA dA=>FF l0 aA nA lA mA kA rA sA qA bA dA (f9 k7) (f11 k7 (f10 k7 n))
def f7:Nat->Y7
 |0=>λ_ _ _ _ _ _ _=>none
 |n+1=>λl0 aA lA mA kA bA dA=>wS l0 aA lA mA kA bA dA f6 (f10 (f7 n) 100000)
def f4(bA dA:ah ((ah UInt8)×Int)):R:=l_ l0 aA bA dA (f7 100000)
def f5:Nat->Y5
 |0=>λ_ _ _ _ _ _ _=>none
 |n+1=>λl0 aA bB dB yA bA dA=>sk l0 aA bB dB yA bA dA f4 (f5 n)
def f2(bA:ah ((ah UInt8)×Int)):R:=dQ l0 aA oA pA bA (f5 100000)
def f3:Nat->Y3
 |0=>λ_ _ _ _ _ _ _ _ _=>none
 |n+1=>λl0 fA aA aB cB xA oA pA bA=>gf l0 fA aA aB cB xA oA pA bA f2 (f3 n)
def f1:R:=dR l0 fA aA oA pA (f3 100000)
def f0:R:=cX l n v bf f1
theorem Ys:(λcA=>(hid Br) ⟨[(24,.cf 24)],[(24,.rows .int cA)]⟩)=f12:=by funext cA;refine cm ?_;unfold f12;exact aa
theorem ZX(XZ:(λcA hA jA gA bA dA iA=>MM (Ou cA hA jA gA bA dA iA))=zA):(λcA hA jA gA bA dA iA=>(hid (UZ (hid Br) MM)) ⟨[(10,.mp 56),(13,.mp 73),(24,.cf 24),(25,.mp 124),(125,.au .eG hA),(126,.int .i64 jA),(127,.int .i64 gA)],[(24,.rows .int cA),(56,.map .str .int bA),(73,.map .str .int dA),(124,.map .int .bool iA)]⟩)=f14 zA:=by subst XZ;funext cA hA jA gA bA dA iA;refine cm ?_;unfold f14;exact aa
theorem E15(XZ:(λcA hA jA gA bA dA iA=>MM (Ou cA hA jA gA bA dA iA))=zA):(λcA eB hA jA gA uA vA wA tA bA dA iA=>(hid (Yj (hid Br) (hid (UZ (hid Br) MM)))) ⟨[(10,.mp 56),(13,.mp 73),(24,.cf 24),(25,.mp 124),(27,.ptr 27 0),(28,.int .i64 eB),(125,.au .eG hA),(126,.int .i64 jA),(127,.int .i64 gA)],[(24,.rows .int cA),(27,.box 0 [.str uA,.au .fy vA,.str wA,.int .i64 tA]),(56,.map .str .int bA),(73,.map .str .int dA),(124,.map .int .bool iA)]⟩)=f15 zA:=by subst XZ;funext cA eB hA jA gA uA vA wA tA bA dA iA;refine cm ?_;unfold f15;rw[<-ZX MM _ rfl];exact aa
theorem T13:∀n,(λcA hA jA gA bA dA iA=>N5 (hid Br) n (Ou cA hA jA gA bA dA iA))=f13 n:=by
 intro n;induction n with
 |zero=>rfl
 |succ n ih=>funext cA hA jA gA bA dA iA;rw[f13];rw[<-Ys,<-ZX (N5 (hid Br) n) _ ih,<-E15 (N5 (hid Br) n) _ ih];exact aa
theorem H13:(λcA hA jA gA bA dA iA=>hid (N5 (hid Br) 100000) (Ou cA hA jA gA bA dA iA))=f13 100000:=by rw[cM];exact(T13 100000)
theorem E6:(λl0 aA bA dA=>(hid ui) ⟨[(0,.au .eG l0),(3,.au .int aA),(10,.mp 56),(13,.mp 73)],[(56,.map .str .int bA),(73,.map .str .int dA)]⟩)=f6:=by funext l0 aA bA dA;refine cm ?_;unfold f6;rw[<-H13];exact aa
theorem E8(h7:(λl0 aA lA mA kA bA dA=>AU (L1 l0 aA lA mA kA bA dA))=k7):(λl0 aA lA mA kA bA dA=>(hid (B5 (hid ui) AU)) ⟨[(0,.au .eG l0),(3,.au .int aA),(10,.mp 56),(13,.mp 73),(87,.au .eG lA),(88,.int .i64 mA),(89,.int .i64 kA)],[(56,.map .str .int bA),(73,.map .str .int dA)]⟩)=f8 k7:=by subst h7;funext l0 aA lA mA kA bA dA;refine cm ?_;unfold f8;exact aa
theorem E9(h7:(λl0 aA lA mA kA bA dA=>AU (L1 l0 aA lA mA kA bA dA))=k7):(λl0 aA nA lA mA kA bA dA=>(hid (Ri (hid ui) (hid (B5 (hid ui) AU)))) ⟨[(0,.au .eG l0),(3,.au .int aA),(10,.mp 56),(13,.mp 73),(19,.bool nA),(87,.au .eG lA),(88,.int .i64 mA),(89,.int .i64 kA)],[(56,.map .str .int bA),(73,.map .str .int dA)]⟩)=f9 k7:=by subst h7;funext l0 aA nA lA mA kA bA dA;refine cm ?_;unfold f9;rw[<-E8 AU _ rfl];exact aa
theorem E11(Vg:bn U El)(k7:Y7)(fB:Rt)(h7:(λl0 aA lA mA kA bA dA=>AU (L1 l0 aA lA mA kA bA dA))=k7)(Q6:(λl0 aA nA lA mA kA rA sA qA bA dA=>Vg (Ra l0 aA nA lA mA kA rA sA qA bA dA))=fB):(λl0 aA nA lA mA kA rA sA qA bA dA=>(hid (Yk (hid ui) (hid (B5 (hid ui) AU)) (hid (Ri (hid ui) (hid (B5 (hid ui) AU)))) Vg)) ⟨[(0,.au .eG l0),(3,.au .int aA),(10,.mp 56),(13,.mp 73),(19,.bool nA),(87,.au .eG lA),(88,.int .i64 mA),(89,.int .i64 kA),(101,.au .fy rA),(102,.int .i64 sA),(103,.int .i64 qA)],[(56,.map .str .int bA),(73,.map .str .int dA)]⟩)=f11 k7 fB:=by subst h7;subst Q6;funext l0 aA nA lA mA kA rA sA qA bA dA;refine cm ?_;unfold f11;exact aa
theorem T10(h7:(λl0 aA lA mA kA bA dA=>AU (L1 l0 aA lA mA kA bA dA))=k7):∀n,(λl0 aA nA lA mA kA rA sA qA bA dA=>Qp (hid ui) (hid (B5 (hid ui) AU)) (hid (Ri (hid ui) (hid (B5 (hid ui) AU)))) n (Ra l0 aA nA lA mA kA rA sA qA bA dA))=f10 k7 n:=by
 subst h7;intro n;induction n with
 |zero=>rfl
 |succ n ih=>funext l0 aA nA lA mA kA rA sA qA bA dA;rw[f10];rw[<-E9 AU _ rfl,<-E11 AU (Qp (hid ui) (hid (B5 (hid ui) AU)) (hid (Ri (hid ui) (hid (B5 (hid ui) AU)))) n) _ _ rfl ih];exact aa
theorem H10(h7:(λl0 aA lA mA kA bA dA=>AU (L1 l0 aA lA mA kA bA dA))=k7):(λl0 aA nA lA mA kA rA sA qA bA dA=>hid (Qp (hid ui) (hid (B5 (hid ui) AU)) (hid (Ri (hid ui) (hid (B5 (hid ui) AU)))) 100000) (Ra l0 aA nA lA mA kA rA sA qA bA dA))=f10 k7 100000:=by rw[cM];exact(T10 AU k7 h7 100000)
theorem T7:∀n,(λl0 aA lA mA kA bA dA=>Qo (hid ui) n (L1 l0 aA lA mA kA bA dA))=f7 n:=by
 intro n;induction n with
 |zero=>rfl
 |succ n ih=>funext l0 aA lA mA kA bA dA;rw[f7];rw[<-E6,<-H10 (Qo (hid ui) n) _ ih];exact aa
theorem H7:(λl0 aA lA mA kA bA dA=>hid (Qo (hid ui) 100000) (L1 l0 aA lA mA kA bA dA))=f7 100000:=by rw[cM];exact(T7 100000)
theorem E4:(λl0 aA bA dA=>(hid pH) ⟨[(0,.au .eG l0),(3,.au .int aA),(10,.mp 56),(13,.mp 73)],[(56,.map .str .int bA),(73,.map .str .int dA)]⟩)=f4:=by funext l0 aA bA dA;refine cm ?_;unfold f4;rw[<-H7];exact aa
theorem T5:∀n,(λl0 aA bB dB yA bA dA=>TA (hid pH) n (UG l0 aA bB dB yA bA dA))=f5 n:=by
 intro n;induction n with
 |zero=>rfl
 |succ n ih=>funext l0 aA bB dB yA bA dA;rw[f5];rw[<-E4,<-ih];exact aa
theorem H5:(λl0 aA bB dB yA bA dA=>hid (TA (hid pH) 100000) (UG l0 aA bB dB yA bA dA))=f5 100000:=by rw[cM];exact(T5 100000)
theorem E2:(λl0 aA oA pA bA=>(hid ib) ⟨[(0,.au .eG l0),(3,.au .int aA),(5,.ptr 5 0),(10,.mp 56)],[(5,.box 0 [.au .node oA,.au .link pA]),(56,.map .str .int bA)]⟩)=f2:=by funext l0 aA oA pA bA;refine cm ?_;unfold f2;rw[<-H5];exact aa
theorem T3:∀n,(λl0 fA aA aB cB xA oA pA bA=>nU (hid ib) n (nz l0 fA aA aB cB xA oA pA bA))=f3 n:=by
 intro n;induction n with
 |zero=>rfl
 |succ n ih=>funext l0 fA aA aB cB xA oA pA bA;rw[f3];rw[<-E2,<-ih];exact aa
theorem H3:(λl0 fA aA aB cB xA oA pA bA=>hid (nU (hid ib) 100000) (nz l0 fA aA aB cB xA oA pA bA))=f3 100000:=by rw[cM];exact(T3 100000)
theorem E1:(λl0 fA aA oA pA=>(hid cQ) ⟨[(0,.au .eG l0),(2,.au .int fA),(3,.au .int aA),(5,.ptr 5 0)],[(5,.box 0 [.au .node oA,.au .link pA])]⟩)=f1:=by funext l0 fA aA oA pA;refine cm ?_;unfold f1;rw[<-H3];exact aa
theorem run:ca X bd an fM [8,9] [] [.au .eG l,eA .mP n,.au .int v,.au .int bf]=f0 l n v bf:=by unfold f0;rw[<-E1];exact aa
abbrev Ok:=Is λp=>∃a,p=IZ .int a
theorem HK(o:ah Int)(e:Int):Ok (some (.bP [.au .int o,.int .i64 e],[])):=.mk ⟨(o,e),rfl⟩
theorem Qj(hl:l.length<=60)(hw:∀r∈l,r.rw.length<=90000)(am lm:ah ((ah UInt8)×Int))(N:Nat)(hb:below N lm)(hm:∀r∈l,qK fh lm r.rl=true): ∀(n i:Nat) (out:ah Int) (st:ah (Int×Bool)),l.length<n+i->i<=l.length->out.length=N->
 Ok (f13 n out l (Int.ofNat l.length) (i:Int) am lm st):=by
 intro n;induction n with
 |zero=>intro i out st h1 h2;omega
 |succ n ih=>
  intro i out st h1 h2 h3;show Ok (PO out l (Int.ofNat l.length) (i:Int) am lm st f12 (f14 (f13 n)) (f15 (f13 n)))
  unfold PO;by_cases hi:i<l.length
  ·have nV:=bW hi;obtain⟨z1,z2⟩:=hb _ (hm _ nV)
   have e1:f14 (f13 n) out l (Int.ofNat l.length) (i:Int) am lm st=f13 n out l (Int.ofNat l.length) (i64.wrap ((i:Int)+1)) am lm st:=rfl;rw[eh (by simp;omega),c9 hi,toNat_nat i,bQ hi,c_ (hw _ nV),e1,eY i ab]
   simp only[eZ,ee]
   generalize gL fh lm l[i].rl bF=q at z1 z2;obtain⟨q,rfl⟩:=bC z1;have hq:q<out.length:=ab
   rw[c9 hq,toNat_nat q,pw hq]
   simp only[eZ]
   have e2:Ok (f15 (f13 n) out (q:Int) l (Int.ofNat l.length) (i:Int) l[i].rn l[i].rw l[i].rl l[i].rs am lm st):=by
    show Ok (PN out (q:Int) l (Int.ofNat l.length) (i:Int) l[i].rn l[i].rw l[i].rl l[i].rs am lm st (f14 (f13 n)))
    unfold PN;rw[c9 hq,toNat_nat,pw hq]
    simp only[eZ]
    show Ok (f13 n (List.set out q l[i].rs) l (Int.ofNat l.length) (i64.wrap ((i:Int)+1)) am lm (qu CC st (q:Int) true))
    rw[eY i ab]
    exact ih (i+1) _ _ ab hi (by simpa using h3)
   exact .fy (λ_=>ih (i+1) out st ab hi h3) (λ_=>.fy (λ_=>.fy (λ_=>HK _ _) (λ_=>e2)) (λ_=>e2))
  ·have:i=l.length:=ab
   subst this;rw[dF ae]
   exact HK _ _
theorem Ql(k7:Y7)(l:ah cT)(bf:ah Int)(x:ah cT)(L i:Int)(w:ah r_)(am lm:ah ((ah UInt8)×Int))(hw:w.length<=90000)(b:Bool)(hk:b=true->Ok (f8 k7 l bf x L i am lm)):∀(n j:Nat) (ok:Bool),(ok=true->b=true)->w.length<n+j->j<=w.length->Ok (f10 k7 n l bf ok x L i w (Int.ofNat w.length) (j:Int) am lm):=by
 intro n;induction n with
 |zero=>intro j ok h0 h1 h2;omega
 |succ n ih=>
  intro j ok h0 h1 h2;show Ok (FF l bf ok x L i w (Int.ofNat w.length) (j:Int) am lm (f9 k7) (f11 k7 (f10 k7 n)))
  unfold FF;by_cases hj:j<w.length
  ·have e1: ∀q,f11 k7 (f10 k7 n) l bf q x L i w (Int.ofNat w.length) (j:Int) am lm=f10 k7 n l bf q x L i w (Int.ofNat w.length) (i64.wrap ((j:Int)+1)) am lm:=λ_=>rfl
   rw[eh (by simp;omega),c9 hj,e1,e1,eY j ab]
   simp only[eZ,ee]
   exact .fy (λh=>ih (j+1) _ (λ_=>h0 h) ab hj) (λ_=>ih (j+1) _ (λh=>by cases h) ab hj)
  ·have:j=w.length:=ab
   subst this;rw[dF ae]
   show Ok (RB l bf ok x L i am lm (f8 k7))
   exact .fy (λ_=>HK _ _) (λh=>hk (h0 (by simpa using h)))
theorem Ti(am lm:ah ((ah UInt8)×Int))(hl:l.length<=60)(hw:∀r∈l,r.rw.length<=90000)(hf:(∀r∈l,qK fh lm r.rl=true)->Ok (f6 l bf am lm)): ∀(n i:Nat),(∀j (hj:j<l.length),j<i->qK fh lm l[j].rl=true)->l.length<n+i->i<=l.length->Ok (f7 n l bf l (Int.ofNat l.length) (i:Int) am lm):=by
 intro n;induction n with
 |zero=>intro i h0 h1 h2;omega
 |succ n ih=>
  intro i h0 h1 h2;show Ok (wS l bf l (Int.ofNat l.length) (i:Int) am lm f6 (f10 (f7 n) 100000))
  unfold wS;by_cases hi:i<l.length
  ·have nV:=bW hi;have hr:=hw _ nV;rw[eh (by simp;omega),c9 hi,toNat_nat,bQ hi]
   refine Ql (f7 n) l bf l (Int.ofNat l.length) (i:Int) l[i].rw am lm hr (qK fh lm l[i].rl) (λhb=>?_) 100000 0 _ (λh=>h) ab ab
   show Ok (f7 n l bf l (Int.ofNat l.length) (i64.wrap ((i:Int)+1)) am lm)
   rw[eY i ab]
   refine ih (i+1) (λj hj Jx=>?_) ab hi;by_cases e:j=i
   ·subst e;exact hb
   ·exact h0 j hj ab
  ·have:i=l.length:=ab
   subst this;rw[dF ae]
   exact hf λr hr=>by
    obtain⟨j,hj,rfl⟩:=iv hr;exact h0 j hj hj
theorem Lh(ks:ah cJ)(hn:ks.length<=400)(am:ah ((ah UInt8)×Int))(hf:∀lm,below ks.length lm->Ok (f4 l bf am lm)):∀(n i:Nat) (lm:ah ((ah UInt8)×Int)),below ks.length lm->ks.length<n+i->i<=ks.length->Ok (f5 n l bf ks (Int.ofNat ks.length) (i:Int) am lm):=by
 intro n;induction n with
 |zero=>intro i lm h0 h1 h2;omega
 |succ n ih=>
  intro i lm h0 h1 h2;show Ok (sk l bf ks (Int.ofNat ks.length) (i:Int) am lm f4 (f5 n))
  unfold sk;by_cases hi:i<ks.length
  ·rw[eh (by simp;omega),c9 hi,eY i ab]
   exact ih (i+1) _ (JS h0 _ ab ab) ab hi
  ·have:i=ks.length:=ab
   subst this;rw[dF ae]
   exact hf lm h0
theorem sZ(ns:ah Node)(ks:ah cJ)(hn:ns.length<=300)(hv:v.length=ns.length)(hf:∀am,Ok (f2 l bf ns ks am)):∀(n i:Nat) (am:ah ((ah UInt8)×Int)),ns.length<n+i->i<=ns.length->Ok (f3 n l v bf ns (Int.ofNat ns.length) (i:Int) ns ks am):=by
 intro n;induction n with
 |zero=>intro i am h1 h2;omega
 |succ n ih=>
  intro i am h1 h2;show Ok (gf l v bf ns (Int.ofNat ns.length) (i:Int) ns ks am f2 (f3 n))
  unfold gf;by_cases hi:i<ns.length
  ·rw[eh (by simp;omega),c9 hi,c9 (show i<v.length by omega),eY i ab]
   exact ih (i+1) _ ab hi
  ·have:i=ns.length:=ab
   subst this;rw[dF ae]
   exact hf am
theorem bE(h:gm n=true):Ok (f0 l n v bf):=by
 show Ok (cX l n v bf f1)
 unfold cX;refine .fy (λ_=>HK _ _) λhr=>.aU h (.fy (λ_=>HK _ _) λhb=>.fy (λ_=>HK _ _) λh1=>.fy (λ_=>HK _ _) λh2=>?_)
 have hr:lx l=true:=by simpa using hr
 have hb:eR n=true:=by simpa using hb
 obtain⟨r1,r2⟩:=FJ hr;obtain⟨n1,n2⟩:=kF hb;have h1:v.length=n.ct.length:=hO (bne_eq_false_iff_eq.mp h1)
 have h2:bf.length=n.cD.length:=hO (bne_eq_false_iff_eq.mp h2)
 refine .aU (c_ ab) (.fy (λ_=>HK _ _) λ_=>?_)
 have hw:∀r∈l,r.rw.length<=90000:=λr hr=>by have:=(IU (r2 r hr)).1;omega
 refine sZ l v bf n.ct n.cD n1 h1 (λam=>?_) 100000 0 [] ab ab
 refine Lh l bf n.cD n2 am (λlm χ=>?_) 100000 0 [] (λs hs=>by cases hs) ab ab
 refine Ti l bf am lm r1 hw (λhm=>?_) 100000 0 (λj hj h=>ab) ab ab
 show Ok (aU (bU bf.length 90000) _)
 exact .aU (c_ ab) (Qj l r1 hw am lm n.cD.length χ hm 100000 0 bf [] ab ab h2)
def P:ah Int×Int:=Classical.epsilon λa=>f0 l n v bf=some (IZ .int a)
theorem aw(h:gm n=true):f0 l n v bf=some (.bP [.au .int (P l n v bf).1,.int .i64 (P l n v bf).2],[]):=(bE l n v bf h).iJ
def c:Ct:=⟨92,cj (A4 (bL .eG) (aR .mP) (bL .int) (bL .int) λl n v bf=>(gm n,(.bP [(.au .int ((ij.P l n v bf).1)),(.int .i64 ((ij.P l n v bf).2))]))),ir call92 func92 (a4 λl n v bf e_=>(run l n v bf).trans (aw l n v bf e_))⟩
end ij
def qS(p:cO×Fe×Int):Fin U El:=(.bP [.agg [.au .int p.1.fH,.au .int p.1.gw,.au .int p.1.dH,.au .bool p.1.ik],.agg [.int .i64 p.2.1.gi,.int .i64 p.2.1.go,.au .int p.2.1.gp],.int .i64 p.2.2],[])
theorem uc(a b c:ah Int)(d:ah Bool)(x y:Int)(z:ah Int)(e:Int):jF qS (some (.bP [.agg [.au .int a,.au .int b,.au .int c,.au .bool d],.agg [.int .i64 x,.int .i64 y,.au .int z],.int .i64 e],[])):=jF.mk (q:=qS) (⟨a,b,c,d⟩,⟨x,y,z⟩,e)
instance:Nonempty (cO×Fe×Int):=⟨(⟨[],[],[],[]⟩,⟨0,0,[]⟩,0)⟩
namespace jT
variable(l1:ah cK)(uA:ah Int)(dA:Int)(aA eB:ah Int)(fB wA:Int)(hA:ah Node)(iA:ah cJ)(jA kA:Int)(fA gA aB:ah Int)(n:Net)(l:ah cK)(s:cO)(inf:ah Int)(t:Int)(iP Fp:bn U El)
def X:Ctx U El:=⟨E,iH,zeros,eqs,lr [(101,Q8.c.s),(160,X2.sp),(161,Gr.c.s),(164,Gw.c.s),(166,tb.c.s),(168,fC.sp),(169,pC.c.s),(170,Ew.sp)],100000,205,js [],lO [(165,sY CN.sp),(167,Le 2 ef.sp)],λ_=>none⟩
def bd:=dG f93
def fM:Norm U:=⟨[],[205,206,12],[],[],[],[(205,0,.int),(205,1,.int),(205,2,.int),(205,3,.bool),(206,2,.int)],[]⟩
def RR:bn U El:=λst=>fz X 205 [(10,31),(11,92)] 205 st λst=>cN fM st (ch [205,206,12] [])
def dI:Norm U:=⟨[(15,.int)],[1,4,5,10,11,13,14,15,16],[15,5,10,11,14,16,500001400,500001401],[],[(14,0,.int,500001400),(14,1,.int,500001401)],[],[(5,0,.node),(5,1,.link),(14,2,.int),(14,3,.bool)]⟩
def jY:Norm U:=⟨[(15,.int)],[1,4,5,10,11,13,14,15,16,80,81,82],[15,5,10,11,14,16,500001400,500001401,500001402,500001403],[],[(14,0,.int,500001400),(14,1,.int,500001401),(14,2,.int,500001402),(14,3,.bool,500001403)],[],[(5,0,.node),(5,1,.link)]⟩
def wX:Norm U:=⟨[(15,.int)],[5,10,11,13,14,15,16],[15,5,10,11,14,16,500001400,500001401,500001602],[],[(14,0,.int,500001400),(14,1,.int,500001401),(16,2,.int,500001602)],[],[(5,0,.node),(5,1,.link),(14,2,.int),(14,3,.bool)]⟩
def sV:Norm U:=⟨[(15,.int)],[5,10,11,13,14,15,16,23,151,152,153],[15,5,10,11,14,16,500001400,500001401,500001403,500001602],[],[(14,0,.int,500001400),(14,1,.int,500001401),(14,3,.bool,500001403),(16,2,.int,500001602)],[],[(5,0,.node),(5,1,.link),(14,2,.int)]⟩
def an:gb U:=(.seq none .d (.seq none .d (.seq (some (⟨[],[1,3,4,5,7,10,11,13],[5,7,10,11],[],[],[],[(5,0,.node),(5,1,.link),(7,0,.int),(7,1,.int),(7,2,.int),(7,3,.bool)]⟩)) .d (.seq none .d (.seq none .d (.seq none .d (.seq (some dI) (.seq none .d (.block (.loop jY (.seq none .d (.seq none .d (.seq (some jY) .d .d)))))) (.seq none .d (.seq none .d (.seq none .d (.seq none .d (.seq none .d (.seq none .d (.seq (some wX) (.seq none .d (.block (.loop sV (.seq none .d (.seq none .d (.seq (some sV) .d .d)))))) (.seq none .d (.seq none (.region [(2,10),(3,11)]) .d))))))))))))))))
abbrev Y1:=(ah cK)->(ah Int)->Int->(ah Node)->(ah cJ)->(ah Int)->(ah Int)->(ah Int)->(ah Bool)->Int->Int->R
abbrev Y2:=(ah cK)->Int->(ah Int)->(ah Node)->(ah cJ)->Int->Int->(ah Int)->(ah Int)->(ah Int)->(ah Bool)->Int->Int->R
abbrev Y3:=(ah cK)->Int->(ah Int)->(ah Int)->Int->Int->(ah Node)->(ah cJ)->Int->Int->(ah Int)->(ah Int)->(ah Int)->(ah Bool)->Int->Int->R
abbrev Y4:=(ah cK)->Int->(ah Int)->(ah Int)->Int->Int->(ah Node)->(ah cJ)->Int->Int->(ah Int)->(ah Int)->(ah Int)->(ah Bool)->Int->Int->R
abbrev Y5:=(ah Int)->(ah Node)->(ah cJ)->Int->Int->(ah Int)->(ah Int)->(ah Int)->(ah Bool)->Int->Int->(ah Int)->R
abbrev Y6:=(ah Int)->(ah j9)->Int->Int->(ah Node)->(ah cJ)->Int->Int->(ah Int)->(ah Int)->(ah Int)->(ah Bool)->Int->Int->(ah Int)->R
abbrev Y7:=(ah Int)->(ah j9)->Int->Int->(ah Node)->(ah cJ)->Int->Int->(ah Int)->(ah Int)->(ah Int)->(ah Bool)->Int->Int->(ah Int)->R
def nz(bA:ah Int)(cA:ah Bool)(lA mA:Int):St U El:=⟨[(1,.au .dj l1),(4,.int .i64 dA),(5,.ptr 5 0),(10,.ptr 10 0),(11,.ptr 11 0),(13,.fn 160 [] []),(14,.ptr 14 0),(15,.cf 15),(16,.ptr 16 0),(80,.au .int eB),(81,.int .i64 fB),(82,.int .i64 wA)],[(15,.rows .int aA),(5,.box 0 [.au .node hA,.au .link iA]),(10,.box 0 [.cL,.cL,.cL,.cL]),(11,.box 0 [.int .i64 jA,.int .i64 kA,.cL]),(14,.box 0 [.cf 500001400,.cf 500001401,.cf 500001402,.cf 500001403]),(16,.box 0 [.int .i64 lA,.int .i64 mA,.cL]),(500001400,.rows .int fA),(500001401,.rows .int gA),(500001402,.rows .int bA),(500001403,.rows .bool cA)]⟩
def yz(eA:ah j9)(vA nA:Int)(hA:ah Node)(iA:ah cJ)(jA kA:Int)(fA gA bA:ah Int)(cA:ah Bool)(lA mA:Int)(oA:ah Int):St U El:=⟨[(5,.ptr 5 0),(10,.ptr 10 0),(11,.ptr 11 0),(13,.fn 160 [] []),(14,.ptr 14 0),(15,.cf 15),(16,.ptr 16 0),(23,.au .pair eA),(151,.cf 500001602),(152,.int .i64 vA),(153,.int .i64 nA)],[(15,.rows .int aA),(5,.box 0 [.au .node hA,.au .link iA]),(10,.box 0 [.cL,.cL,.cL,.cL]),(11,.box 0 [.int .i64 jA,.int .i64 kA,.cL]),(14,.box 0 [.cf 500001400,.cf 500001401,.au .int bA,.cf 500001403]),(16,.box 0 [.int .i64 lA,.int .i64 mA,.cf 500001602]),(500001400,.rows .int fA),(500001401,.rows .int gA),(500001403,.rows .bool cA),(500001602,.rows .int oA)]⟩
def cX(k1:Y1):R:=aU (gm n) (ai (!(eR n&&(fO n s&&qG l))) (some ((.bP [(.agg [(.au .int ([]:ah Int)),(.au .int ([]:ah Int)),(.au .int ([]:ah Int)),(.au .bool ([]:ah Bool))]),(.agg [.int .i64 (0:Int),.int .i64 (0:Int),(.au .int ([]:ah Int))]),(.int .i64 ((1:Int)))]),[])) (ai ((Int.ofNat inf.length) !=(Int.ofNat n.ct.length)) (some ((.bP [(.agg [(.au .int ([]:ah Int)),(.au .int ([]:ah Int)),(.au .int ([]:ah Int)),(.au .bool ([]:ah Bool))]),(.agg [.int .i64 (0:Int),.int .i64 (0:Int),(.au .int ([]:ah Int))]),(.int .i64 ((3:Int)))]),[])) (aU (bU inf.length 90000) (ai (List.any inf kn) (some ((.bP [(.agg [(.au .int ([]:ah Int)),(.au .int ([]:ah Int)),(.au .int ([]:ah Int)),(.au .bool ([]:ah Bool))]),(.agg [.int .i64 (0:Int),.int .i64 (0:Int),(.au .int ([]:ah Int))]),(.int .i64 ((2:Int)))]),[])) (ai (bz t (1:Int)) (some ((.bP [(.agg [(.au .int ([]:ah Int)),(.au .int ([]:ah Int)),(.au .int ([]:ah Int)),(.au .bool ([]:ah Bool))]),(.agg [.int .i64 (0:Int),.int .i64 (0:Int),(.au .int ([]:ah Int))]),(.int .i64 ((2:Int)))]),[])) (ai (bz (86400:Int) t) (some ((.bP [(.agg [(.au .int ([]:ah Int)),(.au .int ([]:ah Int)),(.au .int ([]:ah Int)),(.au .bool ([]:ah Bool))]),(.agg [.int .i64 (0:Int),.int .i64 (0:Int),(.au .int ([]:ah Int))]),(.int .i64 ((2:Int)))]),[])) (aU (gm n&&bU l.length 90000) (ai (!(Gb n l)) (some ((.bP [(.agg [(.au .int ([]:ah Int)),(.au .int ([]:ah Int)),(.au .int ([]:ah Int)),(.au .bool ([]:ah Bool))]),(.agg [.int .i64 (0:Int),.int .i64 (0:Int),(.au .int ([]:ah Int))]),(.int .i64 ((9:Int)))]),[])) (k1 l inf t n.ct n.cD s.fH s.gw s.dH s.ik (0:Int) (0:Int))))))))))
def dR(bB cB:ah Int)(dB:ah Bool)(jA kA:Int)(k3:Y3):R:=aU (uK (⟨aB,bB,cB,dB⟩:cO)) (aU (rB (⟨aB,bB,cB,dB⟩:cO)) (k3 l1 dA ((tb.P (⟨aB,bB,cB,dB⟩:cO))) uA (Int.ofNat uA.length) (0:Int) hA iA jA kA (cO.fH (⟨aB,bB,cB,dB⟩:cO)) (cO.gw (⟨aB,bB,cB,dB⟩:cO)) (cO.dH (⟨aB,bB,cB,dB⟩:cO)) (cO.ik (⟨aB,bB,cB,dB⟩:cO)) (0:Int) (0:Int)))
def dQ(bA:ah Int)(cA:ah Bool)(lA mA:Int)(k6:Y6):R:=aU (ru (⟨hA,iA⟩:Net) fA gA aA) (ai (!((ef.P (⟨hA,iA⟩:Net) bA cA aA fA gA).2.2.2)) (some ((.bP [(.agg [(.au .int ([]:ah Int)),(.au .int ([]:ah Int)),(.au .int ([]:ah Int)),(.au .bool ([]:ah Bool))]),(.agg [.int .i64 (0:Int),.int .i64 (0:Int),(.au .int ([]:ah Int))]),(.int .i64 ((5:Int)))]),[])) (aU ((gm (⟨hA,iA⟩:Net)&&bU l1.length 90000)) (ai (((fC.P (⟨hA,iA⟩:Net) l1 (⟨((ef.P (⟨hA,iA⟩:Net) bA cA aA fA gA).2.1),((ef.P (⟨hA,iA⟩:Net) bA cA aA fA gA).2.2.1),bA,cA⟩:cO) dA).2.2) !=(0:Int)) (some ((.bP [(.agg [(.au .int ([]:ah Int)),(.au .int ([]:ah Int)),(.au .int ([]:ah Int)),(.au .bool ([]:ah Bool))]),(.agg [.int .i64 (0:Int),.int .i64 (0:Int),(.au .int ([]:ah Int))]),(.int .i64 (((fC.P (⟨hA,iA⟩:Net) l1 (⟨((ef.P (⟨hA,iA⟩:Net) bA cA aA fA gA).2.1),((ef.P (⟨hA,iA⟩:Net) bA cA aA fA gA).2.2.1),bA,cA⟩:cO) dA).2.2)))]),[])) (aU (zH (⟨hA,iA⟩:Net) ((ef.P (⟨hA,iA⟩:Net) bA cA aA fA gA).1) ((fC.P (⟨hA,iA⟩:Net) l1 (⟨((ef.P (⟨hA,iA⟩:Net) bA cA aA fA gA).2.1),((ef.P (⟨hA,iA⟩:Net) bA cA aA fA gA).2.2.1),bA,cA⟩:cO) dA).1)) (aU ((gm (⟨hA,iA⟩:Net)&&eR (⟨hA,iA⟩:Net))) (k6 ((ef.P (⟨hA,iA⟩:Net) bA cA aA fA gA).1) (g_ (⟨hA,iA⟩:Net)) (Int.ofNat (List.length ((pC.P (⟨hA,iA⟩:Net) ((ef.P (⟨hA,iA⟩:Net) bA cA aA fA gA).1) ((fC.P (⟨hA,iA⟩:Net) l1 (⟨((ef.P (⟨hA,iA⟩:Net) bA cA aA fA gA).2.1),((ef.P (⟨hA,iA⟩:Net) bA cA aA fA gA).2.2.1),bA,cA⟩:cO) dA).1))))) (0:Int) hA iA jA kA ((ef.P (⟨hA,iA⟩:Net) bA cA aA fA gA).2.1) ((ef.P (⟨hA,iA⟩:Net) bA cA aA fA gA).2.2.1) bA ((fC.P (⟨hA,iA⟩:Net) l1 (⟨((ef.P (⟨hA,iA⟩:Net) bA cA aA fA gA).2.1),((ef.P (⟨hA,iA⟩:Net) bA cA aA fA gA).2.2.1),bA,cA⟩:cO) dA).2.1) lA mA ((pC.P (⟨hA,iA⟩:Net) ((ef.P (⟨hA,iA⟩:Net) bA cA aA fA gA).1) ((fC.P (⟨hA,iA⟩:Net) l1 (⟨((ef.P (⟨hA,iA⟩:Net) bA cA aA fA gA).2.1),((ef.P (⟨hA,iA⟩:Net) bA cA aA fA gA).2.2.1),bA,cA⟩:cO) dA).1)))))))))
def gf(bA:ah Int)(cA:ah Bool)(lA mA:Int)(k2:Y2)(k4:Y4):R:=ai (bz wA fB) (aU (dV wA eB.length) (aU (dV wA hA.length) (ai ((hA.getD wA.toNat fU).nk==(3:Int)) (k4 l1 dA aA eB fB wA hA iA jA kA fA gA bA cA (i64.wrap (lA+(eB.getD wA.toNat bF))) (i64.wrap (mA+(eB.getD wA.toNat bF)))) (aU (dV wA aA.length) (aU (lU wA.toNat aA.length) (aU (dV wA aA.length) (aU (lU wA.toNat aA.length&&true) (k4 l1 dA (List.set aA wA.toNat (i64.wrap ((aA.getD wA.toNat bF)+(eB.getD wA.toNat bF)))) eB fB wA hA iA jA kA fA gA bA cA (i64.wrap (lA+(eB.getD wA.toNat bF))) mA)))))))) (k2 l1 dA aA hA iA jA kA fA gA bA cA lA mA)
def l_(bA:ah Int)(cA:ah Bool)(lA mA:Int)(k3:Y3):R:=k3 l1 dA aA eB fB (i64.wrap (wA+(1:Int))) hA iA jA kA fA gA bA cA lA mA
def sk(jA kA:Int)(fA gA bA:ah Int)(cA:ah Bool)(lA mA:Int)(oA:ah Int):R:=aU (ru (⟨hA,iA⟩:Net) fA gA aA) (ai (!((ef.P (⟨hA,iA⟩:Net) bA cA aA fA gA).2.2.2)) (some ((.bP [(.agg [(.au .int ([]:ah Int)),(.au .int ([]:ah Int)),(.au .int ([]:ah Int)),(.au .bool ([]:ah Bool))]),(.agg [.int .i64 (0:Int),.int .i64 (0:Int),(.au .int ([]:ah Int))]),(.int .i64 ((5:Int)))]),[])) (some ((.bP [(.agg [(.au .int ((ef.P (⟨hA,iA⟩:Net) bA cA aA fA gA).2.1)),(.au .int ((ef.P (⟨hA,iA⟩:Net) bA cA aA fA gA).2.2.1)),.au .int bA,.au .bool cA]),.agg [.int .i64 lA,.int .i64 mA,.au .int oA],.int .i64 (0:Int)]),[])))
def pQ(eA:ah j9)(vA nA:Int)(hA:ah Node)(iA:ah cJ)(jA kA:Int)(fA gA bA:ah Int)(cA:ah Bool)(lA mA:Int)(oA:ah Int)(k5:Y5)(k7:Y7):R:=ai (bz nA vA) (aU (dV nA oA.length) (aU (lU nA.toNat oA.length) (aU (dV nA eA.length) (aU (dV ((eA.getD nA.toNat fi).p0) aA.length) (aU (lU (Int.toNat ((eA.getD nA.toNat fi).p0)) aA.length) (aU (dV ((eA.getD nA.toNat fi).p0) aA.length) (aU (lU (Int.toNat ((eA.getD nA.toNat fi).p0)) aA.length&&true) (aU (dV nA eA.length) (aU (dV ((eA.getD nA.toNat fi).p1) hA.length) (ai ((List.getD hA (Int.toNat ((eA.getD nA.toNat fi).p1)) fU).nk==(3:Int)) (k7 (List.set aA (Int.toNat ((eA.getD nA.toNat fi).p0)) (i64.wrap ((List.getD aA (Int.toNat ((eA.getD nA.toNat fi).p0)) bF)-(oA.getD nA.toNat bF)))) eA vA nA hA iA jA kA fA gA bA cA lA (i64.wrap (mA+(oA.getD nA.toNat bF))) oA) (aU (dV ((eA.getD nA.toNat fi).p1) (List.length (List.set aA (Int.toNat ((eA.getD nA.toNat fi).p0)) (i64.wrap ((List.getD aA (Int.toNat ((eA.getD nA.toNat fi).p0)) bF)-(oA.getD nA.toNat bF)))))) (aU (lU (Int.toNat ((eA.getD nA.toNat fi).p1)) (List.length (List.set aA (Int.toNat ((eA.getD nA.toNat fi).p0)) (i64.wrap ((List.getD aA (Int.toNat ((eA.getD nA.toNat fi).p0)) bF)-(oA.getD nA.toNat bF)))))) (aU (dV ((eA.getD nA.toNat fi).p1) (List.length (List.set aA (Int.toNat ((eA.getD nA.toNat fi).p0)) (i64.wrap ((List.getD aA (Int.toNat ((eA.getD nA.toNat fi).p0)) bF)-(oA.getD nA.toNat bF)))))) (aU (lU (Int.toNat ((eA.getD nA.toNat fi).p1)) (List.length (List.set aA (Int.toNat ((eA.getD nA.toNat fi).p0)) (i64.wrap ((List.getD aA (Int.toNat ((eA.getD nA.toNat fi).p0)) bF)-(oA.getD nA.toNat bF)))))&&true) (k7 (List.set (List.set aA (Int.toNat ((eA.getD nA.toNat fi).p0)) (i64.wrap ((List.getD aA (Int.toNat ((eA.getD nA.toNat fi).p0)) bF)-(oA.getD nA.toNat bF)))) (Int.toNat ((eA.getD nA.toNat fi).p1)) (i64.wrap ((List.getD (List.set aA (Int.toNat ((eA.getD nA.toNat fi).p0)) (i64.wrap ((List.getD aA (Int.toNat ((eA.getD nA.toNat fi).p0)) bF)-(oA.getD nA.toNat bF)))) (Int.toNat ((eA.getD nA.toNat fi).p1)) bF)+(oA.getD nA.toNat bF)))) eA vA nA hA iA jA kA fA gA bA cA lA mA oA))))))))))))))) (k5 aA hA iA jA kA fA gA bA cA lA mA oA)
def wS(eA:ah j9)(vA nA:Int)(hA:ah Node)(iA:ah cJ)(jA kA:Int)(fA gA bA:ah Int)(cA:ah Bool)(lA mA:Int)(oA:ah Int)(k6:Y6):R:=k6 aA eA vA (i64.wrap (nA+(1:Int))) hA iA jA kA fA gA bA cA lA mA oA
abbrev ex:=kf X bd an RR
abbrev it:=nO X bd an RR
def nU:=it jY [1,1,1,1,1,1,0,1,0,0] (cu 1 (bG dI iP) nE)
def AL:=it sV [1,1,1,1,1,1,1,1,1,1,1,1,1,0,1,0,0] (cu 3 (bG wX Fp) nE)
def cQ:=ex [1,1,1] RR nE
def ib:=ex [1,1,1,1,1,1,1] RR nE
def pH(oV:bn U El):=ex [1,1,1,1,1,1,0,1,0,0,1,1,1] (bG jY oV) (cu 1 (bG dI iP) nE)
def rb:=ex [1,1,1,1,1,1,1,1,1,1,1,1,1,1] RR nE
def GP(Dg:bn U El):=ex [1,1,1,1,1,1,1,1,1,1,1,1,1,0,1,0,0,1,1,1] (bG sV Dg) (cu 3 (bG wX Fp) nE)
def f5(bA:ah Int)(cA:ah Bool)(lA mA:Int)(oA:ah Int):R:=sk aA hA iA jA kA fA gA bA cA lA mA oA
def f7(k6:Y6)(aA:ah Int)(eA:ah j9)(vA nA:Int)(hA:ah Node)(iA:ah cJ)(jA kA:Int)(fA gA bA:ah Int)(cA:ah Bool)(lA mA:Int)(oA:ah Int):R:=wS aA eA vA nA hA iA jA kA fA gA bA cA lA mA oA k6
def f6:Nat->Y6
 |0=>λ_ _ _ _ _ _ _ _ _ _ _ _ _ _ _=>none
 |n+1=>λaA eA vA nA hA iA jA kA fA gA bA cA lA mA oA=>pQ aA eA vA nA hA iA jA kA fA gA bA cA lA mA oA f5 (f7 (f6 n))
def f2(bA:ah Int)(cA:ah Bool)(lA mA:Int):R:=dQ l1 dA aA hA iA jA kA fA gA bA cA lA mA (f6 100000)
def f4(k3:Y3)(l1:ah cK)(dA:Int)(aA eB:ah Int)(fB wA:Int)(hA:ah Node)(iA:ah cJ)(jA kA:Int)(fA gA bA:ah Int)(cA:ah Bool)(lA mA:Int):R:=l_ l1 dA aA eB fB wA hA iA jA kA fA gA bA cA lA mA k3
def f3:Nat->Y3
 |0=>λ_ _ _ _ _ _ _ _ _ _ _ _ _ _ _ _=>none
 |n+1=>λl1 dA aA eB fB wA hA iA jA kA fA gA bA cA lA mA=>gf l1 dA aA eB fB wA hA iA jA kA fA gA bA cA lA mA f2 (f4 (f3 n))
def f1(bB cB:ah Int)(dB:ah Bool)(jA kA:Int):R:=dR l1 uA dA hA iA aB bB cB dB jA kA (f3 100000)
def f0:R:=cX n l s inf t f1
theorem E5:(λaA hA iA jA kA fA gA bA cA lA mA oA=>(hid rb) ⟨[(5,.ptr 5 0),(10,.ptr 10 0),(11,.ptr 11 0),(13,.fn 160 [] []),(14,.ptr 14 0),(15,.cf 15),(16,.ptr 16 0)],[(15,.rows .int aA),(5,.box 0 [.au .node hA,.au .link iA]),(10,.box 0 [.cL,.cL,.cL,.cL]),(11,.box 0 [.int .i64 jA,.int .i64 kA,.cL]),(14,.box 0 [.cf 500001400,.cf 500001401,.au .int bA,.au .bool cA]),(16,.box 0 [.int .i64 lA,.int .i64 mA,.cf 500001602]),(500001400,.rows .int fA),(500001401,.rows .int gA),(500001602,.rows .int oA)]⟩)=f5:=by funext aA hA iA jA kA fA gA bA cA lA mA oA;refine cm ?_;unfold f5;exact aa
theorem E7(B8:bn U El)(k6:Y6)(h6:(λaA eA vA nA hA iA jA kA fA gA bA cA lA mA oA=>B8 (yz aA eA vA nA hA iA jA kA fA gA bA cA lA mA oA))=k6):(λaA eA vA nA hA iA jA kA fA gA bA cA lA mA oA=>(hid (GP (hid rb) B8)) ⟨[(5,.ptr 5 0),(10,.ptr 10 0),(11,.ptr 11 0),(13,.fn 160 [] []),(14,.ptr 14 0),(15,.cf 15),(16,.ptr 16 0),(23,.au .pair eA),(151,.cf 500001602),(152,.int .i64 vA),(153,.int .i64 nA)],[(15,.rows .int aA),(5,.box 0 [.au .node hA,.au .link iA]),(10,.box 0 [.cL,.cL,.cL,.cL]),(11,.box 0 [.int .i64 jA,.int .i64 kA,.cL]),(14,.box 0 [.cf 500001400,.cf 500001401,.au .int bA,.cf 500001403]),(16,.box 0 [.int .i64 lA,.int .i64 mA,.cf 500001602]),(500001400,.rows .int fA),(500001401,.rows .int gA),(500001403,.rows .bool cA),(500001602,.rows .int oA)]⟩)=f7 k6:=by subst h6;funext aA eA vA nA hA iA jA kA fA gA bA cA lA mA oA;refine cm ?_;unfold f7;exact aa
theorem T6:∀n,(λaA eA vA nA hA iA jA kA fA gA bA cA lA mA oA=>AL (hid rb) n (yz aA eA vA nA hA iA jA kA fA gA bA cA lA mA oA))=f6 n:=by
 intro n;induction n with
 |zero=>rfl
 |succ n ih=>funext aA eA vA nA hA iA jA kA fA gA bA cA lA mA oA;rw[f6];rw[<-E5,<-E7 (AL (hid rb) n) _ ih];exact aa
theorem H6:(λaA eA vA nA hA iA jA kA fA gA bA cA lA mA oA=>hid (AL (hid rb) 100000) (yz aA eA vA nA hA iA jA kA fA gA bA cA lA mA oA))=f6 100000:=by rw[cM];exact(T6 100000)
theorem E2:(λl1 dA aA hA iA jA kA fA gA bA cA lA mA=>(hid ib) ⟨[(1,.au .dj l1),(4,.int .i64 dA),(5,.ptr 5 0),(10,.ptr 10 0),(11,.ptr 11 0),(13,.fn 160 [] []),(14,.ptr 14 0),(15,.cf 15),(16,.ptr 16 0)],[(15,.rows .int aA),(5,.box 0 [.au .node hA,.au .link iA]),(10,.box 0 [.cL,.cL,.cL,.cL]),(11,.box 0 [.int .i64 jA,.int .i64 kA,.cL]),(14,.box 0 [.cf 500001400,.cf 500001401,.au .int bA,.au .bool cA]),(16,.box 0 [.int .i64 lA,.int .i64 mA,.cL]),(500001400,.rows .int fA),(500001401,.rows .int gA)]⟩)=f2:=by funext l1 dA aA hA iA jA kA fA gA bA cA lA mA;refine cm ?_;unfold f2;rw[<-H6];exact aa
theorem E4(pf:bn U El)(k3:Y3)(h3:(λl1 dA aA eB fB wA hA iA jA kA fA gA bA cA lA mA=>pf (nz l1 dA aA eB fB wA hA iA jA kA fA gA bA cA lA mA))=k3):(λl1 dA aA eB fB wA hA iA jA kA fA gA bA cA lA mA=>(hid (pH (hid ib) pf)) ⟨[(1,.au .dj l1),(4,.int .i64 dA),(5,.ptr 5 0),(10,.ptr 10 0),(11,.ptr 11 0),(13,.fn 160 [] []),(14,.ptr 14 0),(15,.cf 15),(16,.ptr 16 0),(80,.au .int eB),(81,.int .i64 fB),(82,.int .i64 wA)],[(15,.rows .int aA),(5,.box 0 [.au .node hA,.au .link iA]),(10,.box 0 [.cL,.cL,.cL,.cL]),(11,.box 0 [.int .i64 jA,.int .i64 kA,.cL]),(14,.box 0 [.cf 500001400,.cf 500001401,.cf 500001402,.cf 500001403]),(16,.box 0 [.int .i64 lA,.int .i64 mA,.cL]),(500001400,.rows .int fA),(500001401,.rows .int gA),(500001402,.rows .int bA),(500001403,.rows .bool cA)]⟩)=f4 k3:=by subst h3;funext l1 dA aA eB fB wA hA iA jA kA fA gA bA cA lA mA;refine cm ?_;unfold f4;exact aa
theorem T3:∀n,(λl1 dA aA eB fB wA hA iA jA kA fA gA bA cA lA mA=>nU (hid ib) n (nz l1 dA aA eB fB wA hA iA jA kA fA gA bA cA lA mA))=f3 n:=by
 intro n;induction n with
 |zero=>rfl
 |succ n ih=>funext l1 dA aA eB fB wA hA iA jA kA fA gA bA cA lA mA;rw[f3];rw[<-E2,<-E4 (nU (hid ib) n) _ ih];exact aa
theorem H3:(λl1 dA aA eB fB wA hA iA jA kA fA gA bA cA lA mA=>hid (nU (hid ib) 100000) (nz l1 dA aA eB fB wA hA iA jA kA fA gA bA cA lA mA))=f3 100000:=by rw[cM];exact(T3 100000)
theorem E1:(λl1 uA dA hA iA aB bB cB dB jA kA=>(hid cQ) ⟨[(1,.au .dj l1),(3,.au .int uA),(4,.int .i64 dA),(5,.ptr 5 0),(7,.ptr 7 0),(10,.ptr 10 0),(11,.ptr 11 0),(13,.fn 160 [] [])],[(5,.box 0 [.au .node hA,.au .link iA]),(7,.box 0 [.au .int aB,.au .int bB,.au .int cB,.au .bool dB]),(10,.box 0 [.cL,.cL,.cL,.cL]),(11,.box 0 [.int .i64 jA,.int .i64 kA,.cL])]⟩)=f1:=by funext l1 uA dA hA iA aB bB cB dB jA kA;refine cm ?_;unfold f1;rw[<-H3];exact aa
theorem run:gH X bd an fM [(10,31),(11,92)] [205,206,12] [] [.agg [.au .node n.ct,.au .link n.cD],.au .dj l,.agg [.au .int s.fH,.au .int s.gw,.au .int s.dH,.au .bool s.ik],.au .int inf,.int .i64 t]=f0 n l s inf t:=by unfold f0;rw[<-E1];exact aa
abbrev Ok:=jF qS
theorem _o{n:Net}(hN:n.ct.length<=300){held v p:ah Int}(h1:held.length=n.ct.length)(h2:v.length=n.ct.length)(h3:p.length=n.ct.length)(x y:Int)(se:ah Int)(on:ah Bool)(a b:Int)(c:ah Int):Ok (f5 held n.ct n.cD x y v p se on a b c):=by
 refine .aU ?_ (.fy (λ_=>uc _ _ _ _ _ _ _ _) λ_=>uc _ _ _ _ _ _ _ _)
 exact eN (c_ (by show n.ct.length<=_;omega)) (eN (by rw[h2];exact aG _) (eN (by rw[h3];exact aG _) (by rw[h1];exact aG _)))
theorem Lg{n:Net}(hb:eR n=true)(hN:n.ct.length<=300)(hK:n.cD.length<=400){v p:ah Int}(h2:v.length=n.ct.length)(h3:p.length=n.ct.length){ps:ah Int}(hp:ps.length=n.cD.length)(x y:Int)(se:ah Int)(on:ah Bool): ∀(m i:Nat) (held:ah Int) (a b:Int),n.cD.length<m+i->i<=n.cD.length->held.length=n.ct.length->
 Ok (f6 m held (g_ n) (Int.ofNat ps.length) (i:Int) n.ct n.cD x y v p se on a b ps):=by
 intro m;induction m with
 |zero=>intro i held a b h1 h2;omega
 |succ m ih=>
  intro i held a b q1 q2 q3;show Ok (pQ held (g_ n) (Int.ofNat ps.length) (i:Int) n.ct n.cD x y v p se on a b ps f5 (f7 (f6 m)))
  unfold pQ;by_cases hi:i<n.cD.length
  ·have he:i<(g_ n).length:=by simpa[g_]using hi
   have e:(g_ n)[i]=zu n n.cD[i]:=by simp[g_]
   obtain⟨_,k1,k2,_⟩:=tM hb (bW hi)
   have g1:=nv k1;have g2:=nv k2;obtain⟨u,hu⟩:=bC g1.1;obtain⟨t,ht⟩:=bC g2.1;have hu1:u<held.length:=ab
   have Jn:t<held.length:=ab
   have e7:∀hl a b,hl.length=n.ct.length->Ok (f7 (f6 m) hl (g_ n) (Int.ofNat ps.length) (i:Int) n.ct n.cD x y v p se on a b ps):=λhl a b hh=>by
    show Ok (f6 m hl (g_ n) (Int.ofNat ps.length) (i64.wrap ((i:Int)+1)) n.ct n.cD x y v p se on a b ps)
    rw[eY i ab]
    exact ih _ _ _ _ ab hi hh
   rw[eh (by simp;omega),c9 (show i<ps.length by omega),toNat_nat,pw (show i<ps.length by omega),c9 he,bQ he,e]
   simp only[zu,hu,ht,toNat_nat,List.length_set,c9 hu1,c9 Jn,pw hu1,pw Jn,c9 (show t<n.ct.length by omega),eZ,ee,dJ]
   exact .fy (λ_=>e7 _ _ _ (by simpa using q3)) (λ_=>e7 _ _ _ (by simpa using q3))
  ·have:i=ps.length:=ab
   subst this;rw[dF ae]
   exact _o hN q3 h2 h3 x y se on a b ps
theorem _q{n:Net}(hk:gm n=true)(hb:eR n=true){l:ah cK}(hl:bU l.length 90000=true)(t:Int){held v p:ah Int}(h1:held.length=n.ct.length)(hv:kr 4503599627370496 held)(h2:v.length=n.ct.length)(h3:p.length=n.ct.length)(x y:Int)(se:ah Int)(on:ah Bool)(a b:Int):
 Ok (f2 l t held n.ct n.cD x y v p se on a b):=by
 obtain⟨hN,hK⟩:=kF hb;have hs:ru n v p held=true:=eN (c_ ab) (eN (by rw[h2];exact aG _) (eN (by rw[h3];exact aG _) (by rw[h1];exact aG _)))
 obtain⟨g1,g2,g3,g4⟩:=ef.OS (se:=se) (on:=on) hs;show Ok (dQ l t held n.ct n.cD x y v p se on a b (f6 100000))
 refine .aU hs (.fy (λ_=>uc _ _ _ _ _ _ _ _) λ_=>.aU (eN hk hl) (.fy (λ_=>uc _ _ _ _ _ _ _ _) λhe=>?_))
 obtain⟨w1,w2,w3⟩:=fC.OS (eN hk hl) (show(fC.P n l ⟨(ef.P n se on held v p).2.1,(ef.P n se on held v p).2.2.1,se,on⟩ t).2.2=0 by simpa using he)
 have T9:zH n (ef.P n se on held v p).1 (fC.P n l ⟨(ef.P n se on held v p).2.1,(ef.P n se on held v p).2.2.1,se,on⟩ t).1=true:=
  eN hk (eN hb (eN (by rw[g1];exact aG _) (eN (by rw[w1];exact aG _) (eN (wH.2 (g4 _ af hv)) (wH.2 w2)))))
 exact .aU T9 (.aU (eN hk hb) (Lg hb hN hK g2 g3 (by rw[pC.wy T9,w1]) _ _ _ _ 100000 0 _ _ _ ab ab g1))
theorem sZ{n:Net}(hk:gm n=true)(hb:eR n=true){l:ah cK}(hl:bU l.length 90000=true)(t:Int){inf:ah Int}(AP:inf.length=n.ct.length)(xV:kr 1125899906842624 inf){v p:ah Int}(h2:v.length=n.ct.length)(h3:p.length=n.ct.length)(x y:Int)(se:ah Int)(on:ah Bool):
 ∀(m i:Nat) (held:ah Int) (a b:Int),inf.length<m+i->i<=inf.length->held.length=n.ct.length->kr 4503599627370496 held->(∀j (hj:j<held.length),i<=j->held[j]<=2251799813685248)->Ok (f3 m l t held inf (Int.ofNat inf.length) (i:Int) n.ct n.cD x y v p se on a b):=by
 obtain⟨hN,hK⟩:=kF hb;intro m;induction m with
 |zero=>intro i held a b h1 h2;omega
 |succ m ih=>
  intro i held a b q1 q2 q3 q4 q5;show Ok (gf l t held inf (Int.ofNat inf.length) (i:Int) n.ct n.cD x y v p se on a b f2 (f4 (f3 m)))
  unfold gf;by_cases hi:i<inf.length
  ·have e4: ∀dq a b,dq.length=n.ct.length->kr 4503599627370496 dq->(∀j (hj:j<dq.length),i+1<=j->dq[j]<=2251799813685248)->Ok (f4 (f3 m) l t dq inf (Int.ofNat inf.length) (i:Int) n.ct n.cD x y v p se on a b):=λdq a b k1 k2 k3=>by
    show Ok (f3 m l t dq inf (Int.ofNat inf.length) (i64.wrap ((i:Int)+1)) n.ct n.cD x y v p se on a b)
    rw[eY i ab]
    exact ih _ _ _ _ ab hi k1 k2 k3
   have hh:i<held.length:=ab
   rw[eh (by simp;omega),c9 hi,c9 (show i<n.ct.length by omega),c9 hh,toNat_nat,pw hh,bQ hi,bQ hh]
   simp only[eZ,ee,dJ]
   have z1:=q4.at hh;have z2:=q5 i hh (aY _)
   have z3:=xV.at hi;refine .fy (λ_=>e4 _ _ _ q3 q4 λj hj H9=>q5 j hj ab) λ_=>e4 _ _ _ (by simpa using q3) ?_ λj hj H9=>?_
   ·rw[jD ab ab]
    exact q4.set ab ab
   ·rw[List.getElem_set_ne ab]
    exact q5 j (by simpa using hj) ab
  ·have:i=inf.length:=ab
   subst this;rw[dF ae]
   exact _q hk hb hl t q3 q4 h2 h3 _ _ _ _ _ _
theorem bE(h:(gm n&&(bU l.length 90000&&bU inf.length 90000))=true):Ok (f0 n l s inf t):=by
 simp only[aj]at h;obtain⟨hk,hl,hi⟩:=h;show Ok (cX n l s inf t f1)
 refine .aU hk (.fy (λ_=>uc _ _ _ _ _ _ _ _) λhv=>.fy (λ_=>uc _ _ _ _ _ _ _ _) λhn=>.aU hi (.fy (λ_=>uc _ _ _ _ _ _ _ _) λhf=>.fy (λ_=>uc _ _ _ _ _ _ _ _) λ_=>.fy (λ_=>uc _ _ _ _ _ _ _ _) λ_=>.aU (eN hk hl) (.fy (λ_=>uc _ _ _ _ _ _ _ _) λ_=>?_)))
 have hv:=Bi hv;simp only[aj]at hv;obtain⟨hb,hs,hc⟩:=hv;obtain⟨hN,hK⟩:=kF hb;obtain⟨s1,s2,s3,s4⟩:=km hs;obtain⟨v1,v2⟩:=Dv hb hs;have hh:rB s=true:=eN (c_ ab) (Lk.2 ab)
 obtain⟨g1,g2⟩:=tb.OS hh;have g3:=g2 v1 v2;have En:kr 1125899906842624 inf:=λz hz=>by
  have:=gC.1 hf z hz;simp only[kn,bz,eX,decide_eq_true_eq]at this;omega
 show Ok (dR l inf t n.ct n.cD s.fH s.gw s.dH s.ik 0 0 (f3 100000))
 have hn:=hO (bne_eq_false_iff_eq.mp hn)
 refine .aU (eN (c_ (by show s.fH.length<=_;omega)) (eN (c_ (by show s.gw.length<=_;omega)) (eN (c_ (by show s.dH.length<=_;omega)) (c_ (by show s.ik.length<=_;omega))))) (.aU hh ?_)
 exact sZ hk hb hl t hn En s1 s2 _ _ _ _ 100000 0 _ _ _ ab ab (by rw[show tb.P ⟨s.fH,s.gw,s.dH,s.ik⟩=tb.P s from rfl,g1,s1]) (λz hz=>by have:=g3 z hz;omega) λj hj _=>(g3.at hj).2
def P:cO×Fe×Int:=Classical.epsilon λa=>f0 n l s inf t=some (qS a)
theorem aw(h:(gm n&&(bU l.length 90000&&bU inf.length 90000))=true):f0 n l s inf t=some (qS (P n l s inf t)):=(bE n l s inf t h).iJ
theorem ok:bp prog X:=fV lq (yj Q8.c.ok (yj X2.du (yj Gr.c.ok (yj Gw.c.ok (yj tb.c.ok (yj fC.du (yj pC.c.ok (yj Ew.du KE)))))))) pD
theorem jE:kZ prog X:=jx _ (Ja (kU ok CN.du) (Ja (Ld ok ef.du) MS))
theorem spec(h:((gm n&&(bU l.length 90000&&bU inf.length 90000)))=true):cV prog E 93 [(.agg [(.au .node n.ct),(.au .link n.cD)]),(.au .dj l),(.agg [(.au .int s.fH),(.au .int s.gw),(.au .int s.dH),(.au .bool s.ik)]),(.au .int inf),(.int .i64 t)] (.bP [(.agg [(.au .int (((jT.P n l s inf t).1).fH)),(.au .int (((jT.P n l s inf t).1).gw)),(.au .int (((jT.P n l s inf t).1).dH)),(.au .bool (((jT.P n l s inf t).1).ik))]),(.agg [(.int .i64 (((jT.P n l s inf t).2.1).gi)),(.int .i64 (((jT.P n l s inf t).2.1).go)),(.au .int (((jT.P n l s inf t).2.1).gp))]),(.int .i64 ((jT.P n l s inf t).2.2))]) []:=cR ok jE call93 func93 aa aa aa (by show 5<=205;decide) af (by rfl) ((run n l s inf t).trans (aw n l s inf t h))
def sp:Sp U El:=λargs k=>match args with
 |[.agg [.au .node jn,.au .link jo],.au .dj l,.agg [.au .int ji,.au .int jk,.au .int gG,.au .bool jm],.au .int inf,.int .i64 t]=>aU ((gm (⟨jn,jo⟩:Net)&&(bU l.length 90000&&bU inf.length 90000))) (k (.bP [(.agg [(.au .int (((jT.P (⟨jn,jo⟩:Net) l (⟨ji,jk,gG,jm⟩:cO) inf t).1).fH)),(.au .int (((jT.P (⟨jn,jo⟩:Net) l (⟨ji,jk,gG,jm⟩:cO) inf t).1).gw)),(.au .int (((jT.P (⟨jn,jo⟩:Net) l (⟨ji,jk,gG,jm⟩:cO) inf t).1).dH)),(.au .bool (((jT.P (⟨jn,jo⟩:Net) l (⟨ji,jk,gG,jm⟩:cO) inf t).1).ik))]),(.agg [(.int .i64 (((jT.P (⟨jn,jo⟩:Net) l (⟨ji,jk,gG,jm⟩:cO) inf t).2.1).gi)),(.int .i64 (((jT.P (⟨jn,jo⟩:Net) l (⟨ji,jk,gG,jm⟩:cO) inf t).2.1).go)),(.au .int (((jT.P (⟨jn,jo⟩:Net) l (⟨ji,jk,gG,jm⟩:cO) inf t).2.1).gp))]),(.int .i64 ((jT.P (⟨jn,jo⟩:Net) l (⟨ji,jk,gG,jm⟩:cO) inf t).2.2))]) [])
 |_=>none
theorem du:gQ prog E 93 sp where
 pe:=λvs=>by
  unfold sp;split
  ·exact kK _ _ _
  ·exact⟨none,λ_=>rfl⟩
 ok:=λvs k r h=>by
  unfold sp at h;split at h
  ·obtain⟨h1,h2⟩:=aQ h;exact⟨_,_,.inl (spec ⟨_,_⟩ _ ⟨_,_,_,_⟩ _ _ h1),h2⟩
  ·cases h
end jT
namespace di
variable(s1:ah cK)(l2:ah cT)(pA:ah Int)(qA:Int)(rA:ah Node)(sA:ah cJ)(tA yA xA:ah Int)(zA:ah Bool)(n:Net)(l:ah cK)(r:ah cT)(s:cO)(inf:ah Int)(t:Int)
def X:=dp [xi.c,valid.c,wM.c,cG.c,ij.c,⟨93,jT.sp,jT.du⟩] 71
def bd:=dG f41
def fM:Norm U:=⟨[],[71,72,14],[],[],[],[(71,0,.int),(71,1,.int),(71,2,.int),(71,3,.bool),(72,2,.int)],[]⟩
def RR:bn U El:=λst=>fz X 71 [(12,31),(13,92)] 71 st λst=>cN fM st (ch [71,72,14] [])
def an:gb U:=(.seq none .d (.seq (some (⟨[],[1,2,4,5,6,9,12,13],[6,9,12,13],[],[],[],[(6,0,.node),(6,1,.link),(9,0,.int),(9,1,.int),(9,2,.int),(9,3,.bool)]⟩)) .d .d))
abbrev Y1:=(ah cK)->(ah cT)->(ah Int)->Int->(ah Node)->(ah cJ)->(ah Int)->(ah Int)->(ah Int)->(ah Bool)->Int->Int->R
def cX(k1:Y1):R:=ai (!(qG l)) (some ((.bP [(.agg [(.au .int ([]:ah Int)),(.au .int ([]:ah Int)),(.au .int ([]:ah Int)),(.au .bool ([]:ah Bool))]),(.agg [.int .i64 (0:Int),.int .i64 (0:Int),(.au .int ([]:ah Int))]),.int .i64 (1:Int)]),[])) (ai (!(lx r)) (some ((.bP [(.agg [(.au .int ([]:ah Int)),(.au .int ([]:ah Int)),(.au .int ([]:ah Int)),(.au .bool ([]:ah Bool))]),(.agg [.int .i64 (0:Int),.int .i64 (0:Int),(.au .int ([]:ah Int))]),.int .i64 (1:Int)]),[])) (aU (gm n) (ai (!(eR n&&fO n s)) (some ((.bP [(.agg [(.au .int ([]:ah Int)),(.au .int ([]:ah Int)),(.au .int ([]:ah Int)),(.au .bool ([]:ah Bool))]),(.agg [.int .i64 (0:Int),.int .i64 (0:Int),(.au .int ([]:ah Int))]),.int .i64 (1:Int)]),[])) (k1 l r inf t n.ct n.cD s.fH s.gw s.dH s.ik (0:Int) (0:Int)))))
def dR(gB hB:Int):R:=aU (gm (⟨rA,sA⟩:Net)) (ai (((cG.P (⟨rA,sA⟩:Net) tA).2) !=(0:Int)) (some ((.bP [(.agg [(.au .int ([]:ah Int)),(.au .int ([]:ah Int)),(.au .int ([]:ah Int)),(.au .bool ([]:ah Bool))]),(.agg [.int .i64 (0:Int),.int .i64 (0:Int),(.au .int ([]:ah Int))]),(.int .i64 ((cG.P (⟨rA,sA⟩:Net) tA).2))]),[])) (aU (gm (⟨rA,sA⟩:Net)) (ai (((ij.P l2 (⟨rA,sA⟩:Net) ((cG.P (⟨rA,sA⟩:Net) tA).1) xA).2) !=(0:Int)) (some ((.bP [(.agg [(.au .int ([]:ah Int)),(.au .int ([]:ah Int)),(.au .int ([]:ah Int)),(.au .bool ([]:ah Bool))]),(.agg [.int .i64 (0:Int),.int .i64 (0:Int),(.au .int ([]:ah Int))]),(.int .i64 ((ij.P l2 (⟨rA,sA⟩:Net) ((cG.P (⟨rA,sA⟩:Net) tA).1) xA).2))]),[])) (aU ((gm (⟨rA,sA⟩:Net)&&(bU s1.length 90000&&bU pA.length 90000))) (some ((.bP [(.agg [(.au .int (((jT.P (⟨rA,sA⟩:Net) s1 (⟨tA,yA,((ij.P l2 (⟨rA,sA⟩:Net) ((cG.P (⟨rA,sA⟩:Net) tA).1) xA).1),zA⟩:cO) pA qA).1).fH)),(.au .int (((jT.P (⟨rA,sA⟩:Net) s1 (⟨tA,yA,((ij.P l2 (⟨rA,sA⟩:Net) ((cG.P (⟨rA,sA⟩:Net) tA).1) xA).1),zA⟩:cO) pA qA).1).gw)),(.au .int (((jT.P (⟨rA,sA⟩:Net) s1 (⟨tA,yA,((ij.P l2 (⟨rA,sA⟩:Net) ((cG.P (⟨rA,sA⟩:Net) tA).1) xA).1),zA⟩:cO) pA qA).1).dH)),(.au .bool (((jT.P (⟨rA,sA⟩:Net) s1 (⟨tA,yA,((ij.P l2 (⟨rA,sA⟩:Net) ((cG.P (⟨rA,sA⟩:Net) tA).1) xA).1),zA⟩:cO) pA qA).1).ik))]),(.agg [(.int .i64 (((jT.P (⟨rA,sA⟩:Net) s1 (⟨tA,yA,((ij.P l2 (⟨rA,sA⟩:Net) ((cG.P (⟨rA,sA⟩:Net) tA).1) xA).1),zA⟩:cO) pA qA).2.1).gi)),(.int .i64 (((jT.P (⟨rA,sA⟩:Net) s1 (⟨tA,yA,((ij.P l2 (⟨rA,sA⟩:Net) ((cG.P (⟨rA,sA⟩:Net) tA).1) xA).1),zA⟩:cO) pA qA).2.1).go)),(.au .int (((jT.P (⟨rA,sA⟩:Net) s1 (⟨tA,yA,((ij.P l2 (⟨rA,sA⟩:Net) ((cG.P (⟨rA,sA⟩:Net) tA).1) xA).1),zA⟩:cO) pA qA).2.1).gp))]),(.int .i64 ((jT.P (⟨rA,sA⟩:Net) s1 (⟨tA,yA,((ij.P l2 (⟨rA,sA⟩:Net) ((cG.P (⟨rA,sA⟩:Net) tA).1) xA).1),zA⟩:cO) pA qA).2.2))]),[]))))))
abbrev ex:=kf X bd an RR
def cQ:=ex [1,1] RR nE
def f1(gB hB:Int):R:=dR s1 l2 pA qA rA sA tA yA xA zA gB hB
def f0:R:=cX n l r s inf t f1
theorem E1:(λs1 l2 pA qA rA sA tA yA xA zA gB hB=>(hid cQ) ⟨[(1,.au .dj s1),(2,.au .eG l2),(4,.au .int pA),(5,.int .i64 qA),(6,.ptr 6 0),(9,.ptr 9 0),(12,.ptr 12 0),(13,.ptr 13 0)],[(6,.box 0 [.au .node rA,.au .link sA]),(9,.box 0 [.au .int tA,.au .int yA,.au .int xA,.au .bool zA]),(12,.box 0 [.cL,.cL,.cL,.cL]),(13,.box 0 [.int .i64 gB,.int .i64 hB,.cL])]⟩)=f1:=by funext s1 l2 pA qA rA sA tA yA xA zA gB hB;refine cm ?_;unfold f1;exact aa
theorem run:gH X bd an fM [(12,31),(13,92)] [71,72,14] [] [.agg [.au .node n.ct,.au .link n.cD],.au .dj l,.au .eG r,.agg [.au .int s.fH,.au .int s.gw,.au .int s.dH,.au .bool s.ik],.au .int inf,.int .i64 t]=f0 n l r s inf t:=by unfold f0;rw[<-E1];exact aa
theorem bE(h:(gm n&&bU inf.length 90000)=true):jF qS (f0 n l r s inf t):=by
 obtain⟨hk,hi⟩:=aZ.1 h;show jF qS (cX n l r s inf t f1)
 refine .fy (λ_=>uc _ _ _ _ _ _ _ _) λhc=>.fy (λ_=>uc _ _ _ _ _ _ _ _) λ_=>.aU hk (.fy (λ_=>uc _ _ _ _ _ _ _ _) λ_=>?_)
 have hl:=(JR (Bi hc)).1;exact .aU hk (.fy (λ_=>uc _ _ _ _ _ _ _ _) λ_=>.aU hk (.fy (λ_=>uc _ _ _ _ _ _ _ _) λ_=>.aU (eN hk (eN (c_ ab) hi)) (uc _ _ _ _ _ _ _ _)))
def P:cO×Fe×Int:=Classical.epsilon λa=>f0 n l r s inf t=some (qS a)
theorem aw(h:(gm n&&bU inf.length 90000)=true):f0 n l r s inf t=some (qS (P n l r s inf t)):=(bE n l r s inf t h).iJ
theorem ok:bp prog X:=fV lq (ss _) pD
theorem jE:kZ prog X:=λg sp h=>by cases h
theorem spec(h:((gm n&&bU inf.length 90000))=true):cV prog E 41 [(.agg [(.au .node n.ct),(.au .link n.cD)]),(.au .dj l),(.au .eG r),(.agg [(.au .int s.fH),(.au .int s.gw),(.au .int s.dH),(.au .bool s.ik)]),(.au .int inf),(.int .i64 t)] (.bP [(.agg [(.au .int (((di.P n l r s inf t).1).fH)),(.au .int (((di.P n l r s inf t).1).gw)),(.au .int (((di.P n l r s inf t).1).dH)),(.au .bool (((di.P n l r s inf t).1).ik))]),(.agg [(.int .i64 (((di.P n l r s inf t).2.1).gi)),(.int .i64 (((di.P n l r s inf t).2.1).go)),(.au .int (((di.P n l r s inf t).2.1).gp))]),(.int .i64 ((di.P n l r s inf t).2.2))]) []:=cR ok jE call41 func41 aa aa aa (by show 6<=71;decide) af (by rfl) ((run n l r s inf t).trans (aw n l r s inf t h))
def sp:Sp U El:=λargs k=>match args with
 |[.agg [.au .node jn,.au .link jo],.au .dj l,.au .eG r,.agg [.au .int ji,.au .int jk,.au .int gG,.au .bool jm],.au .int inf,.int .i64 t]=>aU ((gm (⟨jn,jo⟩:Net)&&bU inf.length 90000)) (k (.bP [(.agg [(.au .int (((di.P (⟨jn,jo⟩:Net) l r (⟨ji,jk,gG,jm⟩:cO) inf t).1).fH)),(.au .int (((di.P (⟨jn,jo⟩:Net) l r (⟨ji,jk,gG,jm⟩:cO) inf t).1).gw)),(.au .int (((di.P (⟨jn,jo⟩:Net) l r (⟨ji,jk,gG,jm⟩:cO) inf t).1).dH)),(.au .bool (((di.P (⟨jn,jo⟩:Net) l r (⟨ji,jk,gG,jm⟩:cO) inf t).1).ik))]),(.agg [(.int .i64 (((di.P (⟨jn,jo⟩:Net) l r (⟨ji,jk,gG,jm⟩:cO) inf t).2.1).gi)),(.int .i64 (((di.P (⟨jn,jo⟩:Net) l r (⟨ji,jk,gG,jm⟩:cO) inf t).2.1).go)),(.au .int (((di.P (⟨jn,jo⟩:Net) l r (⟨ji,jk,gG,jm⟩:cO) inf t).2.1).gp))]),(.int .i64 ((di.P (⟨jn,jo⟩:Net) l r (⟨ji,jk,gG,jm⟩:cO) inf t).2.2))]) [])
 |_=>none
theorem du:gQ prog E 41 sp where
 pe:=λvs=>by
  unfold sp;split
  ·exact kK _ _ _
  ·exact⟨none,λ_=>rfl⟩
 ok:=λvs k r h=>by
  unfold sp at h;split at h
  ·obtain⟨h1,h2⟩:=aQ h;exact⟨_,_,.inl (spec ⟨_,_⟩ _ _ ⟨_,_,_,_⟩ _ _ h1),h2⟩
  ·cases h
end di
abbrev j8(a b:ah UInt8):ah UInt8:=a++b
def lW(n:Int)(i:Nat):UInt8:=jG (u8.wrap (Int.fdiv (u64.wrap n) (2^(8*i))))
def ep(n:Int):Nat->ah UInt8
 |0=>[]
 |k+1=>lW n k::ep n k
theorem dY(n:Int):∀k,(ep n k).length=k:=by
 intro k;induction k with
 |zero=>rfl
 |succ k ih=>simp only[ep,cI,ih]
def n64(n:Int):Nat:=(u64.wrap n).toNat
theorem Cx(n:Int):((n64 n:Nat):Int)=u64.wrap n:=by
 have:=gP.1 (eO n)
 unfold n64;omega
theorem Qb(n:Int):n64 n<18446744073709551616:=by
 have:=gP.1 (eO n)
 have:=Cx n;omega
theorem pj(z:Int):Ni (u8.wrap z)=true:=by
 simp only[Ni,bg,bz,aj,decide_eq_true_eq,IntKind.wrap_u8]
 omega
theorem GW(n:Int)(i:Nat):(lW n i).toNat=n64 n/256^i%256:=by
 have h:=Dj (pj (Int.fdiv (u64.wrap n) (2^(8*i))))
 have e:Int.fdiv (u64.wrap n) (2^(8*i))=((n64 n/256^i:Nat):Int):=by
  rw[<-Cx,fR _ (Int.pow_nonneg af),Int.natCast_ediv,Int.natCast_pow,Int.pow_mul]
  rfl
 rw[e,IntKind.wrap_u8]at h;have e2:lW n i=jG (((n64 n/256^i:Nat):Int)%256):=by unfold lW;rw[e,IntKind.wrap_u8]
 rw[e2]
 omega
def Ez(a:Int):ah UInt8->Int
 |[]=>a
 |c::l=>Ez (ub .u64 (u64.wrap (a*2^min (Int.toNat (8:Int)) (IntKind.bits .u64))) (u64.wrap (Int.ofNat (UInt8.toNat c)))) l
def Ey(a:Nat):ah UInt8->Nat
 |[]=>a
 |c::l=>Ey (a*256+c.toNat) l
theorem NK{a c:Nat}(hc:c<256)(ha:a*256+256<=18446744073709551616):ub .u64 (u64.wrap ((a:Int)*2^min (Int.toNat (8:Int)) (IntKind.bits .u64))) (u64.wrap (Int.ofNat c))=((a*256+c:Nat):Int):=by
 have e1:u64.wrap ((a:Int)*2^min (Int.toNat (8:Int)) (IntKind.bits .u64))=((a*256:Nat):Int):=by
  have:(2:Int)^min (Int.toNat (8:Int)) (IntKind.bits .u64)=256:=rfl;rw[this,pT ab ab]
  omega
 have e2:u64.wrap (Int.ofNat c)=(c:Int):=pT (dy _) (by show(c:Int)<_;omega)
 rw[e1,e2]
 unfold ub;have b1:(BitVec.ofInt (IntKind.bits .u64) ((a*256:Nat):Int)).toNat=a*256:=by
  show(BitVec.ofInt 64 ((a*256:Nat):Int)).toNat=a*256;rw[BitVec.toNat_ofInt]
  omega
 have b2:(BitVec.ofInt (IntKind.bits .u64) (c:Int)).toNat=c:=by
  show(BitVec.ofInt 64 (c:Int)).toNat=c;rw[BitVec.toNat_ofInt]
  omega
 rw[BitVec.toNat_or,b1,b2]
 have:a*256|||c=a*256+c:=by
  have:=Nat.shiftLeft_add_eq_or_of_lt (i:=8) (b:=c) ab a;rw[Nat.shiftLeft_eq]at this;exact this.symm
 rw[this,pT ab ab]
theorem Jz:∀(l:ah UInt8) (a:Nat),(a+1)*256^l.length<=18446744073709551616->Ez (a:Int) l=((Ey a l:Nat):Int):=by
 intro l;induction l with
 |nil=>intro a _;rfl
 |cons c l ih=>
  intro a h;have hc:=c.toNat_lt;have hc:c.toNat<256:=by simpa using hc
  have h1:(a*256+256)*256^l.length<=18446744073709551616:=by
   rw[cI,oX,je (256^l.length) 256,<-Nat.mul_assoc,cY,hU]at h;exact h
  have hp:1<=256^l.length:=Nat.pow_pos af
  have h2:a*256+256<=18446744073709551616:=ck (Nat.le_mul_of_pos_right _ hp) h1;show Ez (ub .u64 _ _) l=_;rw[NK hc h2]
  exact ih _ (ck (bu _ ab) h1)
theorem L2(n:Int):∀(k a:Nat),Ey a (ep n k)=a*256^k+n64 n%256^k:=by
 intro k;induction k with
 |zero=>intro a;simp[ep,Ey,Nat.mod_one]
 |succ k ih=>
  intro a;simp only[ep,Ey]
  rw[ih,GW,Nat.mod_pow_succ,cY,oX,Nat.mul_assoc,je 256 (256^k),je (n64 n/256^k%256)]
  omega
def F9(l:ah UInt8):Int:=i64.wrap (Ez 0 l)
theorem HO{n:Int}{k:Nat}(hk:k<=8):F9 (ep n k)=i64.wrap ((n64 n%256^k:Nat):Int):=by
 unfold F9;have h:(0+1)*256^(ep n k).length<=18446744073709551616:=by
  rw[dY,bZ,hU]
  exact ck (Nat.pow_le_pow_right af hk) af
 have:=Jz (ep n k) 0 h;rw[show(0:Int)=((0:Nat):Int)from rfl,this,L2,Nat.zero_mul,bZ]
theorem vP{n:Int}{k:Nat}(hk:k<=7)(h0:0<=n)(h1:n<256^k):F9 (ep n k)=n:=by
 rw[HO ab]
 have hp:256^k<=256^7:=Nat.pow_le_pow_right af hk;have W5:(256:Nat)^7=72057594037927936:=af
 have yw:(256:Int)^k=((256^k:Nat):Int):=by rw[Int.natCast_pow];rfl
 rw[yw]at h1;have e:n64 n=n.toNat:=by
  have:=Cx n;rw[pT h0 ab]at this;omega
 rw[e,lH ab,jD ab ab]
 omega
theorem D1{n:Int}(h0: -9223372036854775808<=n)(h1:n<=9223372036854775807):F9 (ep n 8)=n:=by
 rw[HO ab,lH (by exact Qb n),Cx,IntKind.wrap_u64,IntKind.wrap_i64]
 omega
end
end Go.Proofs.YtfmamkmmohilgaaGreatDoor
