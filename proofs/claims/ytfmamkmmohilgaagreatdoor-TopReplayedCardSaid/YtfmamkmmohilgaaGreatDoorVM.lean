/- Contracts of functions that the law reaches, second part: what each returns, or that it returns. Conditions: each contract's own precondition. -/
import Derived.Test.YtfmamkmmohilgaaGreatDoorVG
namespace Go.Proofs.YtfmamkmmohilgaaGreatDoor
open Go.Proofs.Tryz IntKind
set_option linter.all false
set_option maxRecDepth 100000
noncomputable section
def gx(s:ah UInt8)(x:cK):Bool:=x.sn==s
def qg(t:ah cH)(h m:Int):Bool:=fN t&&(((rY t).kx==0)&&(((rY t).ky==0)&&(((iX t).kx==h)&&bg (iX t).ky m)))
def pV(s:cK):Bool:=fj s.sn&&(bg 1 s.sh&&(bg s.sh 32768&&(bg 0 s.sp&&(bg s.sp 1073741824&&(qg s.sa s.sh 1073741824&&qg s.sc s.sh 1099511627776)))))
def vY:ah (ah UInt8)->ah cK->Bool
 |_,[]=>true
 |seen,s::l=>pV s&&(!(List.elem s.sn seen)&&vY (seen++[s.sn]) l)
def qG(l:ah cK):Bool:= !(bz 40 (Int.ofNat l.length))&&vY [] l
def tY(x:C'):Bool:=bz 40 (Int.ofNat x.fv.length)
def BR(s:ah cK)(l:ah cT)(inf:ah C'):Bool:=bz 8 (Int.ofNat s.length)||(List.any s rO||(bz 8 (Int.ofNat l.length)||(List.any l rP||(bz 8 (Int.ofNat inf.length)||List.any inf tY))))
theorem Gv:∀{l:ah cK} {seen:ah (ah UInt8)},vY seen l=true->∀x∈l,pV x=true:=by
 intro l;induction l with
 |nil=>intro seen _ r hr;cases hr
 |cons x l ih=>
  intro seen h r hr;simp only[vY,aj]at h;rcases bN.1 hr with rfl|hr
  ·exact h.1
  ·exact ih h.2.2 r hr
theorem JR{l:ah cK}(h:qG l=true):l.length<=40/\∀x∈l,pV x=true:=by simp only[qG,aj,cF]at h;have:=oD h.1;simp at this;exact⟨ab,Gv h.2⟩
theorem L3{α:Type}(p:α->Bool): ∀(l:ah α) (k i:Nat) (h:i<l.length),p l[i]=true->(dM p k l==((k+i:Nat):Int))= !(List.any (l.take i) p):=by
 intro l;induction l with
 |nil=>intro k i h;cases h
 |cons x l ih=>
  intro k i h hp;cases i with
  |zero=>
   have hp:p x=true:=hp;simp[dM,hp]
  |succ i=>
   simp only[List.take_succ_cons,od,dM]
   cases hx:p x with
   |true=>simp;omega
   |false=>
    have:=ih (k+1) i (by simpa using h) (by simpa using hp)
    rw[cond_false,fe,<-this]
    congr 2;omega
theorem JI(y:ah UInt8)(L:ah cK):List.elem y (L.map cK.sn)=List.any L (gx y):=by
 rw[mh,lZ,eT,List.any_eq_true]
 constructor
 ·rintro⟨x,h1,h2⟩;exact⟨x,h1,by unfold gx;simpa using h2⟩
 ·rintro⟨x,h1,h2⟩;exact⟨x,h1,by unfold gx at h2;simpa using h2⟩
namespace Mu
variable(t:ah cH)(h:Int)
def X:=dp [wI.c] 34
def f0(m:Int):R:=ai (!(fN t)) (aq false) (aU (dV (i64.wrap ((Int.ofNat t.length)-(1:Int))) t.length) (aU (dV (0:Int) t.length) (ai (((List.getD t 0 cE).kx==(0:Int))&&(((List.getD t 0 cE).ky==(0:Int))&&true)) (ai ((List.getD t (Int.toNat (i64.wrap ((Int.ofNat t.length)-(1:Int)))) cE).kx==h) (aq (bg ((List.getD t (Int.toNat (i64.wrap ((Int.ofNat t.length)-(1:Int)))) cE).ky) m)) (aq false)) (aq false))))
theorem run(m):ca X (dG f189) .d (cS [6]) [6] [] [.au .cP t,.int .i64 h,.int .i64 m]=f0 t h m:=aa
theorem aw(m:Int):f0 t h m=aq (qg t h m):=by
 unfold f0 qg rY iX;cases ht:fN t with
 |false=>rfl
 |true=>
  obtain⟨h1,h2⟩:=iT ht;rw[BU ht,c9 (show t.length-1<t.length by omega),Gk h1,toNat_nat]
  simp only[fc,gy,eZ,oB,gU,dm,dJ,iR]
def c:Ct:=⟨189,dU (A3 (bL .cP) aI aI λt h m=>(.bool (qg t h m))),oS call189 func189 (a3 λt h m=>(run t h m).trans (aw t h m))⟩
end Mu
namespace O7
variable(t:ah cH)(h:Int)
def X:=dp [yk.c] 41
def f0(m:Int):R:=ai (!(fN t)) (aq false) (aU (dV (i64.wrap ((Int.ofNat t.length)-(1:Int))) t.length) (aU (dV (0:Int) t.length) (ai ((List.getD t 0 cE).kx==(0:Int)) (aU (dV (0:Int) t.length) (ai ((List.getD t 0 cE).ky==(0:Int)) (ai ((List.getD t (Int.toNat (i64.wrap ((Int.ofNat t.length)-(1:Int)))) cE).kx==h) (aq (bg ((List.getD t (Int.toNat (i64.wrap ((Int.ofNat t.length)-(1:Int)))) cE).ky) m)) (aq false)) (aq false))) (aq false))))
theorem run(m):ca X (dG f152) .d (cS [6]) [6] [] [.au .cP t,.int .i64 h,.int .i64 m]=f0 t h m:=aa
theorem aw(m:Int):f0 t h m=aq (qg t h m):=by
 unfold f0 qg rY iX;cases ht:fN t with
 |false=>rfl
 |true=>
  obtain⟨h1,h2⟩:=iT ht;rw[BU ht,c9 (show t.length-1<t.length by omega),Gk h1,toNat_nat]
  simp only[fc,gy,eZ,oB,gU,dm,dJ,iR]
def c:Ct:=⟨152,dU (A3 (bL .cP) aI aI λt h m=>(.bool (qg t h m))),oS call152 func152 (a3 λt h m=>(run t h m).trans (aw t h m))⟩
end O7
namespace CV
variable(s:cK)
def X:=dp [uP.c,Mu.c] 40
def f0:R:=ai (fj s.sn) (ai (bg (1:Int) s.sh) (ai (bg s.sh (32768:Int)) (ai (bg (0:Int) s.sp) (ai (bg s.sp (1073741824:Int)) (ai (qg s.sa s.sh (1073741824:Int)) (aq (qg s.sc s.sh (1099511627776:Int))) (aq false)) (aq false)) (aq false)) (aq false)) (aq false)) (aq false)
theorem run:ca X (dG f111) .d (cS [2]) [2] [] [eA .dj s]=f0 s:=aa
theorem aw:f0 s=aq (pV s):=by unfold f0 pV;simp only[gU]
def c:Ct:=⟨111,dU (A1 (aR .dj) λs=>(.bool (pV s))),oS call111 func111 (a1 λs=>(run s).trans (aw s))⟩
end CV
namespace DB
variable(s:cK)
def X:=dp [rv.c,O7.c] 39
def bd:=dG f84
def RR:bn U El:=λst=>cN (cS [2]) st (ch [2] [])
def an:gb U:=(.seq none .d (.seq (some (⟨[],[1],[1],[],[],[],[(1,3,.cP),(1,4,.cP)]⟩)) .d .d))
abbrev Y1:=(ah UInt8)->Int->Int->(ah cH)->(ah cH)->R
def cX(k1:Y1):R:=ai (!(fj s.sn)) (aq false) (ai (bz s.sh (1:Int)) (aq false) (ai (bz (32768:Int) s.sh) (aq false) (ai (bz s.sp (0:Int)) (aq false) (ai (bz (1073741824:Int) s.sp) (aq false) (k1 s.sn s.sh s.sp s.sa s.sc)))))
def dR(wA:ah UInt8)(sA xA:Int)(tA uA:ah cH):R:=ai (qg tA sA (1073741824:Int)) (aq (qg uA sA (1099511627776:Int))) (aq false)
abbrev ex:=kf X bd an RR
def cQ:=ex [1,1] RR nE
def f1(wA:ah UInt8)(sA xA:Int)(tA uA:ah cH):R:=dR wA sA xA tA uA
def f0:R:=cX s f1
theorem E1:(λwA sA xA tA uA=>(hid cQ) ⟨[(1,.ptr 1 0)],[(1,.box 0 [.str wA,.int .i64 sA,.int .i64 xA,.au .cP tA,.au .cP uA])]⟩)=f1:=by funext wA sA xA tA uA;refine cm ?_;unfold f1;exact aa
theorem run:ca X bd an (cS [2]) [2] [] [eA .dj s]=f0 s:=by unfold f0;rw[<-E1];exact aa
theorem aw:f0 s=aq (pV s):=by
 show cX s f1=_;unfold cX pV;have h1:f1 s.sn s.sh s.sp s.sa s.sc=aq (qg s.sa s.sh 1073741824&&qg s.sc s.sh 1099511627776):=gU aq _ _;rw[h1]
 simp only[<-mi,uj,gU]
def c:Ct:=⟨84,dU (A1 (aR .dj) λs=>(.bool (pV s))),oS call84 func84 (a1 λs=>(run s).trans (aw s))⟩
end DB
namespace xi
variable(jA:ah cK)(mA iA:Int)(m9:ah ((ah UInt8)×Bool))(gW jW:bn U El)(l:ah cK)
def X:=dp [CV.c] 29
def bd:=dG f54
def RR:bn U El:=λst=>cN (cS [2]) st (ch [2] [])
def eE:Norm U:=cS []
def dI:Norm U:=⟨[],[3,10,11,12],[9],[],[],[],[]⟩
def an:gb U:=(.seq none .d (.seq none .d (.seq none .d (.seq (some eE) (.seq none .d (.block (.loop dI (.seq none .d (.seq none .d (.seq (some dI) (.block (.seq none .d (.seq (some (⟨[],[3,5,10,11,12],[5,9],[],[],[],[(5,3,.cP),(5,4,.cP)]⟩)) .d .d))) .d)))))) .d))))
abbrev Y1:=R
abbrev Y2:=(ah cK)->Int->Int->(ah ((ah UInt8)×Bool))->R
abbrev Y3:=(ah cK)->Int->Int->(ah ((ah UInt8)×Bool))->R
abbrev Y4:=(ah cK)->Int->Int->(ah UInt8)->Int->Int->(ah cH)->(ah cH)->(ah ((ah UInt8)×Bool))->R
def fY:St U El:=⟨[(3,.mp 9),(10,.au .dj jA),(11,.int .i64 mA),(12,.int .i64 iA)],[(9,.map .str .bool m9)]⟩
def cX(k2:Y2):R:=ai (bz (40:Int) (Int.ofNat l.length)) (aq false) (k2 l (Int.ofNat l.length) (0:Int) ([]:ah ((ah UInt8)×Bool)))
def dR:R:=aq true
def dQ(k1:Y1)(k4:Y4):R:=ai (bz iA mA) (aU (dV iA jA.length) (ai (!(pV (jA.getD iA.toNat oU))) (aq false) (ai (gL fh m9 ((jA.getD iA.toNat oU).sn) jz) (aq false) (k4 jA mA iA ((jA.getD iA.toNat oU).sn) ((jA.getD iA.toNat oU).sh) ((jA.getD iA.toNat oU).sp) ((jA.getD iA.toNat oU).sa) ((jA.getD iA.toNat oU).sc) m9)))) (k1)
def gf(k2:Y2):R:=k2 jA mA (i64.wrap (iA+(1:Int))) m9
def l_(vA:ah UInt8)(yA zA:Int)(aB cB:ah cH)(m9:ah ((ah UInt8)×Bool))(k3:Y3):R:=k3 jA mA iA (qu fh m9 vA true)
abbrev ex:=kf X bd an RR
abbrev it:=nO X bd an RR
def gu:=it dI [1,1,1,0,1,0,0] (cu 0 (bG eE gW) nE)
def cQ:=ex [1,1,1,1] RR nE
def mz(iP:bn U El):=ex [1,1,1,0,1,0,0,1,1,1] (bG dI iP) (cu 0 (bG eE gW) nE)
def pH(oV:bn U El):=ex [1,1,1,0,1,0,0,1,1,0,0,1,1] (bG dI oV) (cu 1 (bG dI oV) (cu 0 (bG eE gW) nE))
def f1:R:=dR
def f3(k2:Y2)(jA:ah cK)(mA iA:Int)(m9:ah ((ah UInt8)×Bool)):R:=gf jA mA iA m9 k2
def f4(k2:Y2)(jA:ah cK)(mA iA:Int)(vA:ah UInt8)(yA zA:Int)(aB cB:ah cH)(m9:ah ((ah UInt8)×Bool)):R:=l_ jA mA iA vA yA zA aB cB m9 (f3 k2)
def f2:Nat->Y2
 |0=>λ_ _ _ _=>none
 |n+1=>λjA mA iA m9=>dQ jA mA iA m9 f1 (f4 (f2 n))
def f0:R:=cX l (f2 100000)
theorem E1:((hid cQ) ⟨[],[]⟩)=f1:=by refine cm ?_;unfold f1;exact aa
theorem E3(k2:Y2)(h2:(λjA mA iA m9=>jW (fY jA mA iA m9))=k2):(λjA mA iA m9=>(hid (mz (hid cQ) jW)) ⟨[(3,.mp 9),(10,.au .dj jA),(11,.int .i64 mA),(12,.int .i64 iA)],[(9,.map .str .bool m9)]⟩)=f3 k2:=by subst h2;funext jA mA iA m9;refine cm ?_;unfold f3;exact aa
theorem E4(k2:Y2)(h2:(λjA mA iA m9=>jW (fY jA mA iA m9))=k2):(λjA mA iA vA yA zA aB cB m9=>(hid (pH (hid cQ) (hid (mz (hid cQ) jW)))) ⟨[(3,.mp 9),(5,.ptr 5 0),(10,.au .dj jA),(11,.int .i64 mA),(12,.int .i64 iA)],[(5,.box 0 [.str vA,.int .i64 yA,.int .i64 zA,.au .cP aB,.au .cP cB]),(9,.map .str .bool m9)]⟩)=f4 k2:=by subst h2;funext jA mA iA vA yA zA aB cB m9;refine cm ?_;unfold f4;rw[<-E3 jW _ rfl];exact aa
theorem T2:∀n,(λjA mA iA m9=>gu (hid cQ) n (fY jA mA iA m9))=f2 n:=by
 intro n;induction n with
 |zero=>rfl
 |succ n ih=>funext jA mA iA m9;rw[f2];rw[<-E1,<-E4 (gu (hid cQ) n) _ ih];exact aa
theorem H2:(λjA mA iA m9=>hid (gu (hid cQ) 100000) (fY jA mA iA m9))=f2 100000:=by rw[cM];exact(T2 100000)
theorem run:ca X bd an (cS [2]) [2] [] [.au .dj l]=f0 l:=by unfold f0;rw[<-H2];exact aa
theorem loop(hl:l.length<=40): ∀(n i:Nat) (m:ah (ah UInt8×Bool)) (seen:ah (ah UInt8)),(∀s,rS fh m s=bif List.elem s seen then some true else none)->l.length<n+i->i<=l.length->f2 n l (Int.ofNat l.length) (i:Int) m=aq (vY seen (l.drop i)):=by
 intro n;induction n with
 |zero=>intro i m seen hm h1 h2;omega
 |succ n ih=>
  intro i m seen hm h1 h2;show dQ l (Int.ofNat l.length) (i:Int) m f1 (f4 (f2 n))=_;unfold dQ;by_cases hi:i<l.length
  ·rw[eh (by simp;omega),c9 hi,toNat_nat,bQ hi,fK hi]
   have e4:f4 (f2 n) l (Int.ofNat l.length) (i:Int) l[i].sn l[i].sh l[i].sp l[i].sa l[i].sc m=aq (vY (seen++[l[i].sn]) (l.drop (i+1))):=by
    show f2 n l (Int.ofNat l.length) (i64.wrap ((i:Int)+1)) (qu fh m l[i].sn true)=_;rw[eY i ab]
    refine ih (i+1) _ _ (λs=>?_) ab hi;rw[wY fh uN,hm]
    have e:fh s l[i].sn=(s==l[i].sn):=rfl;rw[e]
    cases hs:(s==l[i].sn)
    ·have:(List.elem s (seen++[l[i].sn]))=List.elem s seen:=by
      rw[mh];simp only[lZ,kz,cz]
      have:¬s=l[i].sn:=by simpa using hs
      simp[this]
     rw[this];rfl
    ·have:(List.elem s (seen++[l[i].sn]))=true:=by
      simp only[lZ,kz,cz]
      exact .inr (by simpa using hs)
     rw[this];rfl
   have hg:gL fh m l[i].sn jz=List.elem l[i].sn seen:=by
    unfold gL;rw[hm];cases List.elem l[i].sn seen<;>rfl
   rw[e4,hg]
   simp only[eZ,ee,vY]
   cases pV l[i]<;>cases List.elem l[i].sn seen<;>rfl
  ·have:i=l.length:=ab
   subst this;rw[dF ae,bH]
   rfl
theorem aw:f0 l=aq (qG l):=by
 show cX l (f2 100000)=_;unfold cX qG;by_cases h:(40:Int)<Int.ofNat l.length
 ·rw[eh h];rfl
 ·rw[dF h]
  have hl:l.length<=40:=by simp at h;omega
  exact loop l hl 100000 0 [] [] (λs=>rfl) ab ab
def c:Ct:=⟨54,dU (A1 (bL .dj) λl=>(.bool (qG l))),oS call54 func54 (a1 λl=>(run l).trans (aw l))⟩
end xi
namespace Hr
variable(l0:ah cK)(kA:ah UInt8)(i5:Int)(l:ah cK)(s:ah UInt8)
def X:=dp [] 20
def bd:=dG f85
def RR:bn U El:=λst=>cN (cS [4]) st (ch [4] [])
def eE:Norm U:=cS []
def dI:Norm U:=cS [0,1,5]
def an:gb U:=(.seq none .d (.seq (some eE) (.seq none .d (.block (.loop dI .d))) .d))
abbrev Y1:=R
abbrev Y2:=(ah cK)->(ah UInt8)->Int->R
def fY:St U El:=⟨[(0,.au .dj l0),(1,.str kA),(5,.int .i64 i5)],[]⟩
def cX(k2:Y2):R:=k2 l s (0:Int)
def dR:R:=gl (-1:Int)
def dQ(k1:Y1)(k2:Y2):R:=ai (bz i5 (Int.ofNat l0.length)) (aU (dV i5 l0.length) (ai (((l0.getD i5.toNat oU).sn)==kA) (gl i5) (k2 l0 kA (i64.wrap (i5+(1:Int)))))) (k1)
abbrev ex:=kf X bd an RR
abbrev it:=nO X bd an RR
def gu(gW:bn U El):=it dI [1,0,1,0,0] (cu 0 (bG eE gW) nE)
def cQ:=ex [1,1] RR nE
def f1:R:=dR
def f2:Nat->Y2
 |0=>λ_ _ _=>none
 |n+1=>λl0 kA i5=>dQ l0 kA i5 f1 (f2 n)
def f0:R:=cX l s (f2 100000)
theorem E1:((hid cQ) ⟨[],[]⟩)=f1:=by refine cm ?_;unfold f1;exact aa
theorem T2:∀n,(λl0 kA i5=>gu (hid cQ) n (fY l0 kA i5))=f2 n:=by
 intro n;induction n with
 |zero=>rfl
 |succ n ih=>funext l0 kA i5;rw[f2];rw[<-E1,<-ih];exact aa
theorem H2:(λl0 kA i5=>hid (gu (hid cQ) 100000) (fY l0 kA i5))=f2 100000:=by rw[cM];exact(T2 100000)
theorem run:ca X bd an (cS [4]) [4] [] [.au .dj l,.str s]=f0 l s:=by unfold f0;rw[<-H2];exact aa
theorem aw(h:bU l.length 90000=true):f0 l s=gl (dM (gx s) 0 l):=by
 have hl:=ia h;refine(jr l ab (λm (_:Unit) i=>f2 m l s i) _ (λ_=>gl (-1)) (λm u i hi=>?_) (λm u=>?_) 100000 0 () ab ab).trans (qV (gx s) gl l 0)
 ·show dQ l s i f1 (f2 m)=_;unfold dQ;rw[eh (by simp;omega),c9 hi,toNat_nat,bQ hi]
  rfl
 ·show dQ l s (l.length:Int) f1 (f2 m)=_;unfold dQ;rw[dF ae]
  rfl
def c:Ct:=⟨85,cj (A2 (bL .dj) aS λl s=>(bU l.length 90000,(.int .i64 (dM (gx s) 0 l)))),ir call85 func85 (a2 λl s e_=>(run l s).trans (aw l s e_))⟩
end Hr
namespace Hw
variable(gW:bn U El)(l0:ah cK)(i3:Int)(l:ah cK)
def X:=dp [DB.c,Hr.c] 30
def bd:=dG f31
def RR:bn U El:=λst=>cN (cS [2]) st (ch [2] [])
def eE:Norm U:=cS []
def dI:Norm U:=cS [0,3]
def an:gb U:=(.seq none .d (.seq none .d (.seq (some eE) (.seq none .d (.block (.loop dI (.seq none .d (.seq (some dI) .d .d))))) .d)))
abbrev Y1:=R
abbrev Y2:=(ah cK)->Int->R
abbrev Y3:=(ah cK)->Int->R
def fY:St U El:=⟨[(0,.au .dj l0),(3,.int .i64 i3)],[]⟩
def cX(k2:Y2):R:=ai (bz (40:Int) (Int.ofNat l.length)) (aq false) (k2 l (0:Int))
def dR:R:=aq true
def dQ(k1:Y1)(k3:Y3):R:=ai (bz i3 (Int.ofNat l0.length)) (aU (dV i3 l0.length) (ai (!(pV (l0.getD i3.toNat oU))) (aq false) (aU (dV i3 l0.length) (aU (bU l0.length 90000) (ai ((dM (gx ((l0.getD i3.toNat oU).sn)) 0 l0) !=i3) (aq false) (k3 l0 i3)))))) (k1)
def gf(k2:Y2):R:=k2 l0 (i64.wrap (i3+(1:Int)))
abbrev ex:=kf X bd an RR
abbrev it:=nO X bd an RR
def gu:=it dI [1,1,0,1,0,0] (cu 0 (bG eE gW) nE)
def cQ:=ex [1,1,1] RR nE
def mz(iP:bn U El):=ex [1,1,0,1,0,0,1,1] (bG dI iP) (cu 0 (bG eE gW) nE)
def f1:R:=dR
def f3(k2:Y2)(l0:ah cK)(i3:Int):R:=gf l0 i3 k2
def f2:Nat->Y2
 |0=>λ_ _=>none
 |n+1=>λl0 i3=>dQ l0 i3 f1 (f3 (f2 n))
def f0:R:=cX l (f2 100000)
theorem E1:((hid cQ) ⟨[],[]⟩)=f1:=by refine cm ?_;unfold f1;exact aa
theorem E3(jW:bn U El)(k2:Y2)(h2:(λl0 i3=>jW (fY l0 i3))=k2):(λl0 i3=>(hid (mz (hid cQ) jW)) ⟨[(0,.au .dj l0),(3,.int .i64 i3)],[]⟩)=f3 k2:=by subst h2;funext l0 i3;refine cm ?_;unfold f3;exact aa
theorem T2:∀n,(λl0 i3=>gu (hid cQ) n (fY l0 i3))=f2 n:=by
 intro n;induction n with
 |zero=>rfl
 |succ n ih=>funext l0 i3;rw[f2];rw[<-E1,<-E3 (gu (hid cQ) n) _ ih];exact aa
theorem H2:(λl0 i3=>hid (gu (hid cQ) 100000) (fY l0 i3))=f2 100000:=by rw[cM];exact(T2 100000)
theorem run:ca X bd an (cS [2]) [2] [] [.au .dj l]=f0 l:=by unfold f0;rw[<-H2];exact aa
theorem loop(hl:l.length<=40):∀(n i:Nat),l.length<n+i->i<=l.length->f2 n l (i:Int)=aq (vY ((l.take i).map cK.sn) (l.drop i)):=by
 intro n;induction n with
 |zero=>intro i h1 h2;omega
 |succ n ih=>
  intro i h1 h2;show dQ l (i:Int) f1 (f3 (f2 n))=_;unfold dQ;by_cases hi:i<l.length
  ·have e3:f3 (f2 n) l (i:Int)=f2 n l (i64.wrap ((i:Int)+1)):=rfl;have hf:=L3 (gx l[i].sn) l 0 i hi (by simp[gx])
   rw[bZ]at hf;rw[eh (by simp;omega),c9 hi,toNat_nat,bQ hi,fK hi,c_ (show l.length<=90000 by omega),e3,eY i ab,ih (i+1) ab hi,yg hi]
   simp only[eZ,ee,vY,oP,dx,jf,JI,bne,hf]
   cases pV l[i]<;>cases List.any (l.take i) (gx l[i].sn)<;>rfl
  ·have:i=l.length:=ab
   subst this;rw[dF ae,bH]
   rfl
theorem aw:f0 l=aq (qG l):=by
 show cX l (f2 100000)=_;unfold cX qG;by_cases h:(40:Int)<Int.ofNat l.length
 ·rw[eh h];rfl
 ·rw[dF h]
  have hl:l.length<=40:=by simp at h;omega
  exact loop l hl 100000 0 ab ab
def c:Ct:=⟨31,dU (A1 (bL .dj) λl=>(.bool (qG l))),oS call31 func31 (a1 λl=>(run l).trans (aw l))⟩
end Hw
namespace YK
variable(x:C')
def X:=dp [] 7
def f0:R:=aq (bz (40:Int) (Int.ofNat x.fv.length))
theorem run:ca X (dG f80) .d (cS [2]) [2] [] [eA .ud x]=f0 x:=aa
theorem aw:f0 x=aq (tY x):=rfl
def c:Ct:=⟨80,dU (A1 (aR .ud) λx=>(.bool (tY x))),oS call80 func80 (a1 λx=>(run x).trans (aw x))⟩
end YK
namespace SH
def X:=dp [YK.c] 19
def g:ah (AV U El)->Option (Bool×AV U El)
 |[.au .ud l,.fn 80 [] []]=>some (bU l.length 90000,.int .i64 (dM tY 0 l))
 |_=>none
def c:Ct:=⟨146,cj g,ir call146 func146 λvs v h e=>by
 unfold g at h;split at h;cases h;exact qt (X:=X) e aa (λ_ _ _=>aa) aa;cases h⟩
end SH
namespace SI
def X:=dp [SH.c] 9
def g:ah (AV U El)->Option (Bool×AV U El)
 |[.au .ud l,.fn 80 [] []]=>some (bU l.length 90000,.bool (List.any l tY))
 |_=>none
def c:Ct:=⟨79,cj g,ir call79 func79 λvs v h e=>by
 unfold g at h;split at h;cases h;exact cont (X:=X) e aa;cases h⟩
end SI
namespace DM
variable(s:ah cK)(l:ah cT)(inf:ah C')
def X:=dp [SN.c,SK.c,SI.c] 32
def f0:R:=ai (bz (8:Int) (Int.ofNat s.length)) (aq true) (aU (bU s.length 90000) (ai (List.any s rO) (aq true) (ai (bz (8:Int) (Int.ofNat l.length)) (aq true) (aU (bU l.length 90000) (ai (List.any l rP) (aq true) (ai (bz (8:Int) (Int.ofNat inf.length)) (aq true) (aU (bU inf.length 90000) (aq (List.any inf tY)))))))))
theorem run:ca X (dG f29) .d (cS [6]) [6] [] [.au .dj s,.au .eG l,.au .ud inf]=f0 s l inf:=aa
theorem aw:f0 s l inf=aq (BR s l inf):=by
 unfold f0 BR;by_cases h1:(8:Int)<Int.ofNat s.length
 ·rw[eh h1];rfl
 ·rw[dF h1,c_ (show s.length<=90000 by simp at h1;omega)]
  simp only[eZ,gy,fe]
  cases List.any s rO
  ·by_cases h2:(8:Int)<Int.ofNat l.length
   ·rw[eh h2];rfl
   ·rw[dF h2,c_ (show l.length<=90000 by simp at h2;omega)]
    simp only[eZ,gy,fe]
    cases List.any l rP
    ·by_cases h3:(8:Int)<Int.ofNat inf.length
     ·rw[eh h3];rfl
     ·rw[dF h3,c_ (show inf.length<=90000 by simp at h3;omega)]
      rfl
    ·rfl
  ·rfl
def c:Ct:=⟨29,dU (A3 (bL .dj) (bL .eG) (bL .ud) λs l inf=>(.bool (BR s l inf))),oS call29 func29 (a3 λs l inf=>(run s l inf).trans (aw s l inf))⟩
end DM
namespace KF
variable(t:ah cH)
def X:=dp [] 9
def fM:Norm U:=⟨[],[9],[],[],[],[],[]⟩
def f0:R:=aU (dV (i64.wrap ((Int.ofNat t.length)-(1:Int))) t.length) (some ((.agg [(.int .i64 ((List.getD t (Int.toNat (i64.wrap ((Int.ofNat t.length)-(1:Int)))) cE).kx)),(.int .i64 ((List.getD t (Int.toNat (i64.wrap ((Int.ofNat t.length)-(1:Int)))) cE).ky))]),[]))
theorem run:gH X (dG f190) .d fM [(2,218)] [9] [] [.au .cP t]=f0 t:=aa
theorem aw(h:(lU 0 t.length&&bU t.length 90000)=true):f0 t=some (.agg [.int .i64 (iX t).kx,.int .i64 (iX t).ky],[]):=by
 simp only[aj]at h;have h1:0<t.length:=of_decide_eq_true h.1;have h2:=ia h.2;unfold f0 iX;rw[show i64.wrap (Int.ofNat t.length-1)=((t.length-1:Nat):Int)from vm t.length ab ab,c9 (show t.length-1<t.length by omega),toNat_nat]
 rfl
theorem ok:bp prog X:=fV lq (ss _) pD
theorem jE:kZ prog X:=λg sp h=>by cases h
theorem spec(h:((lU 0 t.length&&bU t.length 90000))=true):cV prog E 190 [(.au .cP t)] (.agg [(.int .i64 ((iX t).kx)),(.int .i64 ((iX t).ky))]) []:=cR ok jE call190 func190 aa aa aa (by show 1<=9;decide) af (by rfl) ((run t).trans (aw t h))
def sp:Sp U El:=λargs k=>match args with
 |[.au .cP t]=>aU (lU 0 t.length&&bU t.length 90000) (k (.agg [(.int .i64 ((iX t).kx)),(.int .i64 ((iX t).ky))]) [])
 |_=>none
theorem du:gQ prog E 190 sp where
 pe:=λvs=>by
  unfold sp;split
  ·exact kK _ _ _
  ·exact⟨none,λ_=>rfl⟩
 ok:=λvs k r h=>by
  unfold sp at h;split at h
  ·obtain⟨h1,h2⟩:=aQ h;exact⟨_,_,.inl (spec _ h1),h2⟩
  ·cases h
end KF
def yf(n:Node):Int:=bif n.nk==3 then 0 else(iX n.nh).ky
def tm(n:Node):Bool:=(n.nk==3)||(lU 0 n.nh.length&&bU n.nh.length 90000)
namespace PR
variable(n:Node)
def X:=dp [⟨190,KF.sp,KF.du⟩] 10
def f0:R:=ai (n.nk==(3:Int)) (gl (0:Int)) (aU (lU 0 n.nh.length&&bU n.nh.length 90000) (gl ((iX n.nh).ky)))
theorem run:ca X (dG f114) .d (cS [2]) [2] [] [eA .node n]=f0 n:=aa
theorem aw(h:tm n=true):f0 n=gl (yf n):=by
 unfold f0 yf;unfold tm at h;cases e:n.nk==3 with
 |true=>rfl
 |false=>rw[e,fe]at h;rw[h];rfl
def c:Ct:=⟨114,cj (A1 (aR .node) λn=>(tm n,.int .i64 (yf n))),ir call114 func114 (a1 λn e_=>(run n).trans (aw n e_))⟩
end PR
namespace SF
variable(n:Node)
def X:=dp [] 15
def f0:R:=ai (n.nk==(3:Int)) (gl (0:Int)) (aU (dV (i64.wrap ((Int.ofNat n.nh.length)-(1:Int))) n.nh.length) (gl ((List.getD n.nh (Int.toNat (i64.wrap ((Int.ofNat n.nh.length)-(1:Int)))) cE).ky)))
theorem run:ca X (dG f87) .d (cS [2]) [2] [] [eA .node n]=f0 n:=aa
theorem aw(h:tm n=true):f0 n=gl (yf n):=by
 unfold f0 yf;unfold tm at h;cases e:n.nk==3 with
 |true=>rfl
 |false=>
  rw[e,fe]at h;simp only[aj]at h;have h1:0<n.nh.length:=of_decide_eq_true h.1;have h2:=ia h.2;rw[show i64.wrap (Int.ofNat n.nh.length-1)=((n.nh.length-1:Nat):Int)from vm n.nh.length ab ab,c9 (show n.nh.length-1<n.nh.length by omega),toNat_nat]
  rfl
def c:Ct:=⟨87,cj (A1 (aR .node) λn=>(tm n,.int .i64 (yf n))),ir call87 func87 (a1 λn e_=>(run n).trans (aw n e_))⟩
end SF
theorem kF{n:Net}(h:eR n=true):n.ct.length<=300/\n.cD.length<=400:=by simp only[eR,aj,cF]at h;have h1:=oD h.1;have h2:=oD h.2.1;simp at h1 h2;omega
theorem tL{n:Net}(h:eR n=true):∀x∈n.ct,pv x=true:=λx hx=>by
 simp only[eR,aj]at h;obtain⟨i,hi,rfl⟩:=iv hx;have:=wx.1 h.2.2.1 i _ (az hi)
 simp only[qb,cF,hY,Bool.not_eq_false']at this;exact this.1
theorem wW{x:Node}(h:pv x=true):tm x=true:=by
 unfold tm;cases e:x.nk==3 with
 |true=>rfl
 |false=>
  simp only[pv,aj,e,cond_false]at h;obtain⟨_,_,_,_,_,h⟩:=h;cases e2:(x.nk==1||x.nk==2)with
  |false=>rw[e2,cond_false]at h;cases h
  |true=>
   rw[e2,cond_true]at h;simp only[aj,iZ]at h;obtain⟨h1,h2⟩:=iT h.2.1.1;rw[fe,aj]
   exact⟨pw h1,c_ ab⟩
def uM(s:cO)(i:Nat)(x:Node):Bool:=(bg 0 (s.fH.getD i bF)&&bg (s.fH.getD i bF) (yf x))&&((bg 0 (s.gw.getD i bF)&&bg (s.gw.getD i bF) 1125899906842624)&& !((x.nk==3)&&(List.getD s.gw i bF !=0)))
def rE(s:cO)(i:Nat)(x:cJ):Bool:=(bg 0 (s.dH.getD i bF)&&bg (s.dH.getD i bF) 1000)&& !(List.getD s.ik i jz&&(x.lk !=4))
def fO(n:Net)(s:cO):Bool:=(Int.ofNat s.fH.length==Int.ofNat n.ct.length)&&((Int.ofNat s.gw.length==Int.ofNat n.ct.length)&&((Int.ofNat s.dH.length==Int.ofNat n.cD.length)&&((Int.ofNat s.ik.length==Int.ofNat n.cD.length)&&(allI (λi x=>uM s i x) 0 n.ct&&allI (λi x=>rE s i x) 0 n.cD))))
theorem Lk{a b:Nat}:(Int.ofNat a==Int.ofNat b)=true↔a=b:=by rw[beq_iff_eq];exact⟨hO,congrArg _⟩
theorem bA(a e:Bool):(!(a&& !e))=(!a||e):=by cases a<;>cases e<;>rfl
theorem bB(a b e:Bool):(!(a&&(b&& !e)))=(!a||(!b||e)):=by cases a<;>cases b<;>cases e<;>rfl
theorem km{n:Net}{s:cO}(h:fO n s=true):s.fH.length=n.ct.length/\s.gw.length=n.ct.length/\s.dH.length=n.cD.length/\s.ik.length=n.cD.length:=by simp only[fO,aj,Lk]at h;exact⟨h.1,h.2.1,h.2.2.1,h.2.2.2.1⟩
namespace wM
variable(oA:ah Node)(qA lA:Int)(gA:ah Node)(hA pA:ah cJ)(rA nA:Int)(cA aA dA:ah Int)(fA:ah Bool)(iP Fp:bn U El)(n:Net)(s:cO)
def X:=dp [nS.c,Cc.c,PR.c,FD.c] 116
def bd:=dG f56
def RR:bn U El:=λst=>cN (cS [4]) st (ch [4] [])
def eE:Norm U:=⟨[],[2,3],[2,3],[],[],[],[(2,0,.node),(2,1,.link),(3,0,.int),(3,1,.int),(3,2,.int),(3,3,.bool)]⟩
def jY:Norm U:=⟨[],[2,3,49,50,51],[2,3],[],[],[],[(2,0,.node),(2,1,.link),(3,0,.int),(3,1,.int),(3,2,.int),(3,3,.bool)]⟩
def wX:Norm U:=cS []
def sV:Norm U:=⟨[],[3,89,90,91],[3],[],[],[],[(3,0,.int),(3,1,.int),(3,2,.int),(3,3,.bool)]⟩
def an:gb U:=(.seq none .d (.seq (some eE) .d (.seq (some eE) (.seq none .d (.block (.loop jY (.seq none .d (.seq none .d (.seq (some jY) .d .d)))))) (.seq (some wX) (.seq none .d (.block (.loop sV (.seq none .d (.seq none .d (.seq (some sV) .d .d)))))) .d))))
abbrev Y1:=(ah Node)->(ah cJ)->(ah Int)->(ah Int)->(ah Int)->(ah Bool)->R
abbrev Y2:=(ah Node)->(ah cJ)->(ah Int)->(ah Int)->(ah Int)->(ah Bool)->R
abbrev Y3:=(ah Node)->Int->Int->(ah Node)->(ah cJ)->(ah Int)->(ah Int)->(ah Int)->(ah Bool)->R
abbrev Y4:=(ah Node)->Int->Int->(ah Node)->(ah cJ)->(ah Int)->(ah Int)->(ah Int)->(ah Bool)->R
abbrev Y5:=R
abbrev Y6:=(ah cJ)->Int->Int->(ah Int)->(ah Int)->(ah Int)->(ah Bool)->R
abbrev Y7:=(ah cJ)->Int->Int->(ah Int)->(ah Int)->(ah Int)->(ah Bool)->R
def nz:St U El:=⟨[(2,.ptr 2 0),(3,.ptr 3 0),(49,.au .node oA),(50,.int .i64 qA),(51,.int .i64 lA)],[(2,.box 0 [.au .node gA,.au .link hA]),(3,.box 0 [.au .int cA,.au .int aA,.au .int dA,.au .bool fA])]⟩
def yz:St U El:=⟨[(3,.ptr 3 0),(89,.au .link pA),(90,.int .i64 rA),(91,.int .i64 nA)],[(3,.box 0 [.au .int cA,.au .int aA,.au .int dA,.au .bool fA])]⟩
def cX(k1:Y1):R:=aU (gm n) (ai (!(eR n)) (aq false) (ai ((Int.ofNat s.fH.length) !=(Int.ofNat n.ct.length)) (aq false) (ai ((Int.ofNat s.gw.length) !=(Int.ofNat n.ct.length)) (aq false) (ai ((Int.ofNat s.dH.length) !=(Int.ofNat n.cD.length)) (aq false) (ai ((Int.ofNat s.ik.length) !=(Int.ofNat n.cD.length)) (aq false) (k1 n.ct n.cD s.fH s.gw s.dH s.ik))))))
def dR(k3:Y3):R:=k3 gA (Int.ofNat gA.length) (0:Int) gA hA cA aA dA fA
def dQ(gA:ah Node)(hA:ah cJ)(cA aA dA:ah Int)(fA:ah Bool)(k6:Y6):R:=k6 hA (Int.ofNat hA.length) (0:Int) cA aA dA fA
def gf(k2:Y2)(k4:Y4):R:=ai (bz lA qA) (aU (dV lA oA.length) (aU (dV lA cA.length) (aU (tm (oA.getD lA.toNat fU)) (ai (!((bg (0:Int) (cA.getD lA.toNat bF)&&bg (cA.getD lA.toNat bF) (yf (oA.getD lA.toNat fU))))) (aq false) (aU (dV lA aA.length) (ai (!(bg 0 (aA.getD lA.toNat bF)&&bg (aA.getD lA.toNat bF) 1125899906842624)) (aq false) (ai ((oA.getD lA.toNat fU).nk==(3:Int)) (aU (dV lA aA.length) (ai ((aA.getD lA.toNat bF) !=(0:Int)) (aq false) (k4 oA qA lA gA hA cA aA dA fA))) (k4 oA qA lA gA hA cA aA dA fA)))))))) (k2 gA hA cA aA dA fA)
def l_(k3:Y3):R:=k3 oA qA (i64.wrap (lA+(1:Int))) gA hA cA aA dA fA
def sk:R:=aq true
def pQ(k5:Y5)(k7:Y7):R:=ai (bz nA rA) (aU (dV nA pA.length) (aU (dV nA dA.length) (ai (!(bg (0:Int) (dA.getD nA.toNat bF)&&bg (dA.getD nA.toNat bF) (1000:Int))) (aq false) (aU (dV nA fA.length) (ai (fA.getD nA.toNat jz) (ai ((pA.getD nA.toNat dz).lk !=(4:Int)) (aq false) (k7 pA rA nA cA aA dA fA)) (k7 pA rA nA cA aA dA fA)))))) (k5)
def wS(k6:Y6):R:=k6 pA rA (i64.wrap (nA+(1:Int))) cA aA dA fA
abbrev ex:=kf X bd an RR
abbrev it:=nO X bd an RR
def nU:=it jY [1,1,0,1,0,0] (cu 0 (bG eE iP) nE)
def AL:=it sV [1,1,1,0,1,0,0] (cu 2 (bG wX Fp) nE)
def cQ:=ex [1,1] RR nE
def ib:=ex [1,1,1] RR nE
def pH(oV:bn U El):=ex [1,1,0,1,0,0,1,1,1] (bG jY oV) (cu 0 (bG eE iP) nE)
def rb:=ex [1,1,1,1] RR nE
def GP(Dg:bn U El):=ex [1,1,1,0,1,0,0,1,1,1] (bG sV Dg) (cu 2 (bG wX Fp) nE)
def f5:R:=sk
def f7(k6:Y6)(pA:ah cJ)(rA nA:Int)(cA aA dA:ah Int)(fA:ah Bool):R:=wS pA rA nA cA aA dA fA k6
def f6:Nat->Y6
 |0=>λ_ _ _ _ _ _ _=>none
 |n+1=>λpA rA nA cA aA dA fA=>pQ pA rA nA cA aA dA fA f5 (f7 (f6 n))
def f2:R:=dQ gA hA cA aA dA fA (f6 100000)
def f4(k3:Y3)(oA:ah Node)(qA lA:Int)(gA:ah Node)(hA:ah cJ)(cA aA dA:ah Int)(fA:ah Bool):R:=l_ oA qA lA gA hA cA aA dA fA k3
def f3:Nat->Y3
 |0=>λ_ _ _ _ _ _ _ _ _=>none
 |n+1=>λoA qA lA gA hA cA aA dA fA=>gf oA qA lA gA hA cA aA dA fA f2 (f4 (f3 n))
def f1:R:=dR gA hA cA aA dA fA (f3 100000)
def f0:R:=cX n s f1
theorem E5:((hid rb) ⟨[],[]⟩)=f5:=by refine cm ?_;unfold f5;exact aa
theorem E7(B8:bn U El)(k6:Y6)(h6:(λpA rA nA cA aA dA fA=>B8 (yz pA rA nA cA aA dA fA))=k6):(λpA rA nA cA aA dA fA=>(hid (GP (hid rb) B8)) ⟨[(3,.ptr 3 0),(89,.au .link pA),(90,.int .i64 rA),(91,.int .i64 nA)],[(3,.box 0 [.au .int cA,.au .int aA,.au .int dA,.au .bool fA])]⟩)=f7 k6:=by subst h6;funext pA rA nA cA aA dA fA;refine cm ?_;unfold f7;exact aa
theorem T6:∀n,(λpA rA nA cA aA dA fA=>AL (hid rb) n (yz pA rA nA cA aA dA fA))=f6 n:=by
 intro n;induction n with
 |zero=>rfl
 |succ n ih=>funext pA rA nA cA aA dA fA;rw[f6];rw[<-E5,<-E7 (AL (hid rb) n) _ ih];exact aa
theorem H6:(λpA rA nA cA aA dA fA=>hid (AL (hid rb) 100000) (yz pA rA nA cA aA dA fA))=f6 100000:=by rw[cM];exact(T6 100000)
theorem E2:(λgA hA cA aA dA fA=>(hid ib) ⟨[(2,.ptr 2 0),(3,.ptr 3 0)],[(2,.box 0 [.au .node gA,.au .link hA]),(3,.box 0 [.au .int cA,.au .int aA,.au .int dA,.au .bool fA])]⟩)=f2:=by funext gA hA cA aA dA fA;refine cm ?_;unfold f2;rw[<-H6];exact aa
theorem E4(pf:bn U El)(k3:Y3)(h3:(λoA qA lA gA hA cA aA dA fA=>pf (nz oA qA lA gA hA cA aA dA fA))=k3):(λoA qA lA gA hA cA aA dA fA=>(hid (pH (hid ib) pf)) ⟨[(2,.ptr 2 0),(3,.ptr 3 0),(49,.au .node oA),(50,.int .i64 qA),(51,.int .i64 lA)],[(2,.box 0 [.au .node gA,.au .link hA]),(3,.box 0 [.au .int cA,.au .int aA,.au .int dA,.au .bool fA])]⟩)=f4 k3:=by subst h3;funext oA qA lA gA hA cA aA dA fA;refine cm ?_;unfold f4;exact aa
theorem T3:∀n,(λoA qA lA gA hA cA aA dA fA=>nU (hid ib) n (nz oA qA lA gA hA cA aA dA fA))=f3 n:=by
 intro n;induction n with
 |zero=>rfl
 |succ n ih=>funext oA qA lA gA hA cA aA dA fA;rw[f3];rw[<-E2,<-E4 (nU (hid ib) n) _ ih];exact aa
theorem H3:(λoA qA lA gA hA cA aA dA fA=>hid (nU (hid ib) 100000) (nz oA qA lA gA hA cA aA dA fA))=f3 100000:=by rw[cM];exact(T3 100000)
theorem E1:(λgA hA cA aA dA fA=>(hid cQ) ⟨[(2,.ptr 2 0),(3,.ptr 3 0)],[(2,.box 0 [.au .node gA,.au .link hA]),(3,.box 0 [.au .int cA,.au .int aA,.au .int dA,.au .bool fA])]⟩)=f1:=by funext gA hA cA aA dA fA;refine cm ?_;unfold f1;rw[<-H3];exact aa
theorem run:ca X bd an (cS [4]) [4] [] [eA .mP n,eA .state s]=f0 n s:=by unfold f0;rw[<-E1];exact aa
theorem aw(h:gm n=true):f0 n s=aq (eR n&&fO n s):=by
 show cX n s f1=_;unfold cX fO;rw[h]
 cases hb:eR n with
 |false=>rfl
 |true=>
  obtain⟨Db,qx⟩:=kF hb;have hn:=tL hb;obtain⟨ct,cD⟩:=n;obtain⟨vo,po,se,on⟩:=s;simp only[bne,fc,gy,eZ,dm,uj]at*;cases e1:(Int.ofNat vo.length==Int.ofNat ct.length)with
  |false=>rfl
  |true=>
   cases e2:(Int.ofNat po.length==Int.ofNat ct.length)with
   |false=>rfl
   |true=>
    cases e3:(Int.ofNat se.length==Int.ofNat cD.length)with
    |false=>rfl
    |true=>
     cases e4:(Int.ofNat on.length==Int.ofNat cD.length)with
     |false=>rfl
     |true=>
      rw[Lk]at e1 e2 e3 e4;simp only[ee,dm]
      have g2:f2 ct cD vo po se on=aq (allI (λi x=>rE ⟨vo,po,se,on⟩ i x) 0 cD):=by
       refine(jr cD ab (λn_ (_:Unit) i_=>f6 n_ cD (Int.ofNat cD.length) i_ vo po se on) (λu i x k=>ai (!(rE ⟨vo,po,se,on⟩ i x)) (aq false) (k u)) (λ_=>aq true) (λn_ u_ i_ qy=>?_) (λn_ u_=>?_) 100000 0 () ab ab).trans ((kJ _ (λ_=>aq true) false cD 0).trans ?_)
       ·show pQ cD (Int.ofNat cD.length) i_ vo po se on f5 (f7 (f6 n_))=_;unfold pQ rE;have e7:f7 (f6 n_) cD (Int.ofNat cD.length) (i_:Int) vo po se on=f6 n_ cD (Int.ofNat cD.length) (i64.wrap ((i_:Int)+1)) vo po se on:=rfl;rw[eh (by simp;omega),c9 qy,c9 (show i_<se.length by omega),c9 (show i_<on.length by omega),toNat_nat,bQ qy,e7]
        simp only[eZ,ee,sj,Ir,bA,bB]
       ·show pQ cD (Int.ofNat cD.length) (cD.length:Int) vo po se on f5 (f7 (f6 n_))=_;unfold pQ;rw[dF ae]
        rfl
       ·simp only[iG]
        cases allI (λi x=>rE ⟨vo,po,se,on⟩ i x) 0 cD<;>rfl
      refine(jr ct ab (λn_ (_:Unit) i_=>f3 n_ ct (Int.ofNat ct.length) i_ ct cD vo po se on) (λu i x k=>ai (!(uM ⟨vo,po,se,on⟩ i x)) (aq false) (k u)) (λ_=>f2 ct cD vo po se on) (λn_ u_ i_ qy=>?_) (λn_ u_=>?_) 100000 0 () ab ab).trans ((kJ _ (λ_=>f2 ct cD vo po se on) false ct 0).trans ?_)
      ·show gf ct (Int.ofNat ct.length) i_ ct cD vo po se on f2 (f4 (f3 n_))=_;unfold gf uM;have e7:f4 (f3 n_) ct (Int.ofNat ct.length) (i_:Int) ct cD vo po se on=f3 n_ ct (Int.ofNat ct.length) (i64.wrap ((i_:Int)+1)) ct cD vo po se on:=rfl;rw[eh (by simp;omega),c9 qy,c9 (show i_<vo.length by omega),c9 (show i_<po.length by omega),toNat_nat,bQ qy,e7,wW (hn _ (bW qy))]
       simp only[eZ,ee,sj,Ir,bA,bB]
      ·show gf ct (Int.ofNat ct.length) (ct.length:Int) ct cD vo po se on f2 (f4 (f3 n_))=_;unfold gf;rw[dF ae]
       rfl
      ·simp only[iG]
       rw[g2]
       exact gU aq _ _
def c:Ct:=⟨56,cj (A2 (aR .mP) (aR .state) λn s=>(gm n,.bool (eR n&&fO n s))),ir call56 func56 (a2 λn s e_=>(run n s).trans (aw n s e_))⟩
end wM
namespace yl
variable(i6 i5:Int)(gA:ah Node)(hA:ah cJ)(cA aA dA:ah Int)(fA:ah Bool)(iP Fp:bn U El)(n:Net)(s:cO)
def X:=dp [Ch.c,SF.c] 131
def bd:=dG f33
def RR:bn U El:=λst=>cN (cS [4]) st (ch [4] [])
def eE:Norm U:=⟨[],[2,3],[2,3],[],[],[],[(2,0,.node),(2,1,.link),(3,0,.int),(3,1,.int),(3,2,.int),(3,3,.bool)]⟩
def jY:Norm U:=⟨[],[2,3,5],[2,3],[],[],[],[(2,0,.node),(2,1,.link),(3,0,.int),(3,1,.int),(3,2,.int),(3,3,.bool)]⟩
def wX:Norm U:=cS []
def sV:Norm U:=⟨[],[2,3,6],[2,3],[],[],[],[(2,0,.node),(2,1,.link),(3,0,.int),(3,1,.int),(3,2,.int),(3,3,.bool)]⟩
def an:gb U:=(.seq none .d (.seq (some eE) .d (.seq (some eE) (.seq none .d (.block (.loop jY (.seq none .d (.seq (some jY) .d .d))))) (.seq (some wX) (.seq none .d (.block (.loop sV (.seq none .d (.seq (some sV) .d .d))))) .d))))
abbrev Y1:=(ah Node)->(ah cJ)->(ah Int)->(ah Int)->(ah Int)->(ah Bool)->R
abbrev Y2:=(ah Node)->(ah cJ)->(ah Int)->(ah Int)->(ah Int)->(ah Bool)->R
abbrev Y3:=Int->(ah Node)->(ah cJ)->(ah Int)->(ah Int)->(ah Int)->(ah Bool)->R
abbrev Y4:=Int->(ah Node)->(ah cJ)->(ah Int)->(ah Int)->(ah Int)->(ah Bool)->R
abbrev Y5:=R
abbrev Y6:=Int->(ah Node)->(ah cJ)->(ah Int)->(ah Int)->(ah Int)->(ah Bool)->R
abbrev Y7:=Int->(ah Node)->(ah cJ)->(ah Int)->(ah Int)->(ah Int)->(ah Bool)->R
variable(k6:Y6)
def nz:St U El:=⟨[(2,.ptr 2 0),(3,.ptr 3 0),(5,.int .i64 i5)],[(2,.box 0 [.au .node gA,.au .link hA]),(3,.box 0 [.au .int cA,.au .int aA,.au .int dA,.au .bool fA])]⟩
def yz:St U El:=⟨[(2,.ptr 2 0),(3,.ptr 3 0),(6,.int .i64 i6)],[(2,.box 0 [.au .node gA,.au .link hA]),(3,.box 0 [.au .int cA,.au .int aA,.au .int dA,.au .bool fA])]⟩
def cX(k1:Y1):R:=ai ((Int.ofNat s.fH.length) !=(Int.ofNat n.ct.length)) (aq false) (ai ((Int.ofNat s.gw.length) !=(Int.ofNat n.ct.length)) (aq false) (ai ((Int.ofNat s.dH.length) !=(Int.ofNat n.cD.length)) (aq false) (ai ((Int.ofNat s.ik.length) !=(Int.ofNat n.cD.length)) (aq false) (k1 n.ct n.cD s.fH s.gw s.dH s.ik))))
def dR(k3:Y3):R:=k3 (0:Int) gA hA cA aA dA fA
def dQ:R:=k6 (0:Int) gA hA cA aA dA fA
def gf(k2:Y2)(k4:Y4):R:=ai (bz i5 (Int.ofNat gA.length)) (aU (dV i5 cA.length) (ai (bz (cA.getD i5.toNat bF) (0:Int)) (aq false) (aU (dV i5 cA.length) (aU (dV i5 gA.length) (aU (tm (gA.getD i5.toNat fU)) (ai (bz (yf (gA.getD i5.toNat fU)) (cA.getD i5.toNat bF)) (aq false) (aU (dV i5 aA.length) (ai (!(bg 0 (aA.getD i5.toNat bF)&&bg (aA.getD i5.toNat bF) 1125899906842624)) (aq false) (aU (dV i5 gA.length) (ai ((gA.getD i5.toNat fU).nk==(3:Int)) (aU (dV i5 aA.length) (ai ((aA.getD i5.toNat bF) !=(0:Int)) (aq false) (k4 i5 gA hA cA aA dA fA))) (k4 i5 gA hA cA aA dA fA))))))))))) (k2 gA hA cA aA dA fA)
def l_(k3:Y3):R:=k3 (i64.wrap (i5+(1:Int))) gA hA cA aA dA fA
def sk:R:=aq true
def pQ(k5:Y5)(k7:Y7):R:=ai (bz i6 (Int.ofNat hA.length)) (aU (dV i6 dA.length) (ai (bz (dA.getD i6.toNat bF) (0:Int)) (aq false) (aU (dV i6 dA.length) (ai (bz (1000:Int) (dA.getD i6.toNat bF)) (aq false) (aU (dV i6 fA.length) (ai (fA.getD i6.toNat jz) (aU (dV i6 hA.length) (ai ((hA.getD i6.toNat dz).lk !=(4:Int)) (aq false) (k7 i6 gA hA cA aA dA fA))) (k7 i6 gA hA cA aA dA fA))))))) (k5)
def wS:R:=k6 (i64.wrap (i6+(1:Int))) gA hA cA aA dA fA
abbrev ex:=kf X bd an RR
abbrev it:=nO X bd an RR
def nU:=it jY [1,1,0,1,0,0] (cu 0 (bG eE iP) nE)
def AL:=it sV [1,1,1,0,1,0,0] (cu 2 (bG wX Fp) nE)
def cQ:=ex [1,1] RR nE
def ib:=ex [1,1,1] RR nE
def pH(oV:bn U El):=ex [1,1,0,1,0,0,1,1] (bG jY oV) (cu 0 (bG eE iP) nE)
def rb:=ex [1,1,1,1] RR nE
def GP(Dg:bn U El):=ex [1,1,1,0,1,0,0,1,1] (bG sV Dg) (cu 2 (bG wX Fp) nE)
def f5:R:=sk
def f7(k6:Y6)(i6:Int)(gA:ah Node)(hA:ah cJ)(cA aA dA:ah Int)(fA:ah Bool):R:=wS i6 gA hA cA aA dA fA k6
def f6:Nat->Y6
 |0=>λ_ _ _ _ _ _ _=>none
 |n+1=>λi6 gA hA cA aA dA fA=>pQ i6 gA hA cA aA dA fA f5 (f7 (f6 n))
def f2:R:=dQ gA hA cA aA dA fA (f6 100000)
def f4(k3:Y3)(i5:Int)(gA:ah Node)(hA:ah cJ)(cA aA dA:ah Int)(fA:ah Bool):R:=l_ i5 gA hA cA aA dA fA k3
def f3:Nat->Y3
 |0=>λ_ _ _ _ _ _ _=>none
 |n+1=>λi5 gA hA cA aA dA fA=>gf i5 gA hA cA aA dA fA f2 (f4 (f3 n))
def f1:R:=dR gA hA cA aA dA fA (f3 100000)
def f0:R:=cX n s f1
theorem E5:((hid rb) ⟨[],[]⟩)=f5:=by refine cm ?_;unfold f5;exact aa
theorem E7(B8:bn U El)(k6:Y6)(h6:(λi6 gA hA cA aA dA fA=>B8 (yz i6 gA hA cA aA dA fA))=k6):(λi6 gA hA cA aA dA fA=>(hid (GP (hid rb) B8)) ⟨[(2,.ptr 2 0),(3,.ptr 3 0),(6,.int .i64 i6)],[(2,.box 0 [.au .node gA,.au .link hA]),(3,.box 0 [.au .int cA,.au .int aA,.au .int dA,.au .bool fA])]⟩)=f7 k6:=by subst h6;funext i6 gA hA cA aA dA fA;refine cm ?_;unfold f7;exact aa
theorem T6:∀n,(λi6 gA hA cA aA dA fA=>AL (hid rb) n (yz i6 gA hA cA aA dA fA))=f6 n:=by
 intro n;induction n with
 |zero=>rfl
 |succ n ih=>funext i6 gA hA cA aA dA fA;rw[f6];rw[<-E5,<-E7 (AL (hid rb) n) _ ih];exact aa
theorem H6:(λi6 gA hA cA aA dA fA=>hid (AL (hid rb) 100000) (yz i6 gA hA cA aA dA fA))=f6 100000:=by rw[cM];exact(T6 100000)
theorem E2:(λgA hA cA aA dA fA=>(hid ib) ⟨[(2,.ptr 2 0),(3,.ptr 3 0)],[(2,.box 0 [.au .node gA,.au .link hA]),(3,.box 0 [.au .int cA,.au .int aA,.au .int dA,.au .bool fA])]⟩)=f2:=by funext gA hA cA aA dA fA;refine cm ?_;unfold f2;rw[<-H6];exact aa
theorem E4(pf:bn U El)(k3:Y3)(h3:(λi5 gA hA cA aA dA fA=>pf (nz i5 gA hA cA aA dA fA))=k3):(λi5 gA hA cA aA dA fA=>(hid (pH (hid ib) pf)) ⟨[(2,.ptr 2 0),(3,.ptr 3 0),(5,.int .i64 i5)],[(2,.box 0 [.au .node gA,.au .link hA]),(3,.box 0 [.au .int cA,.au .int aA,.au .int dA,.au .bool fA])]⟩)=f4 k3:=by subst h3;funext i5 gA hA cA aA dA fA;refine cm ?_;unfold f4;exact aa
theorem T3:∀n,(λi5 gA hA cA aA dA fA=>nU (hid ib) n (nz i5 gA hA cA aA dA fA))=f3 n:=by
 intro n;induction n with
 |zero=>rfl
 |succ n ih=>funext i5 gA hA cA aA dA fA;rw[f3];rw[<-E2,<-E4 (nU (hid ib) n) _ ih];exact aa
theorem H3:(λi5 gA hA cA aA dA fA=>hid (nU (hid ib) 100000) (nz i5 gA hA cA aA dA fA))=f3 100000:=by rw[cM];exact(T3 100000)
theorem E1:(λgA hA cA aA dA fA=>(hid cQ) ⟨[(2,.ptr 2 0),(3,.ptr 3 0)],[(2,.box 0 [.au .node gA,.au .link hA]),(3,.box 0 [.au .int cA,.au .int aA,.au .int dA,.au .bool fA])]⟩)=f1:=by funext gA hA cA aA dA fA;refine cm ?_;unfold f1;rw[<-H3];exact aa
theorem run:ca X bd an (cS [4]) [4] [] [eA .mP n,eA .state s]=f0 n s:=by unfold f0;rw[<-E1];exact aa
theorem aw(h:(gm n&&eR n)=true):f0 n s=aq (fO n s):=by
 show cX n s f1=_;unfold cX fO;rw[aj]at h;have hb:=h.2;obtain⟨Db,qx⟩:=kF hb;have hn:=tL hb;obtain⟨ct,cD⟩:=n;obtain⟨vo,po,se,on⟩:=s;simp only[bne,uj]at*;cases e1:(Int.ofNat vo.length==Int.ofNat ct.length)with
 |false=>rfl
 |true=>
  cases e2:(Int.ofNat po.length==Int.ofNat ct.length)with
  |false=>rfl
  |true=>
   cases e3:(Int.ofNat se.length==Int.ofNat cD.length)with
   |false=>rfl
   |true=>
    cases e4:(Int.ofNat on.length==Int.ofNat cD.length)with
    |false=>rfl
    |true=>
     rw[Lk]at e1 e2 e3 e4;simp only[ee,dm]
     have g2:f2 ct cD vo po se on=aq (allI (λi x=>rE ⟨vo,po,se,on⟩ i x) 0 cD):=by
      refine(jr cD ab (λn_ (_:Unit) i_=>f6 n_ i_ ct cD vo po se on) (λu i x k=>ai (!(rE ⟨vo,po,se,on⟩ i x)) (aq false) (k u)) (λ_=>aq true) (λn_ u_ i_ qy=>?_) (λn_ u_=>?_) 100000 0 () ab ab).trans ((kJ _ (λ_=>aq true) false cD 0).trans ?_)
      ·show pQ i_ ct cD vo po se on f5 (f7 (f6 n_))=_;unfold pQ rE;have e7:f7 (f6 n_) (i_:Int) ct cD vo po se on=f6 n_ (i64.wrap ((i_:Int)+1)) ct cD vo po se on:=rfl;rw[eh (by simp;omega),c9 qy,c9 (show i_<se.length by omega),c9 (show i_<on.length by omega),toNat_nat,bQ qy,e7]
       simp only[eZ,ee,sj,Ir,bA,bB]
       simp only[kk,mi,Bool.or_assoc]
      ·show pQ (cD.length:Int) ct cD vo po se on f5 (f7 (f6 n_))=_;unfold pQ;rw[dF ae]
       rfl
      ·simp only[iG]
       cases allI (λi x=>rE ⟨vo,po,se,on⟩ i x) 0 cD<;>rfl
     refine(jr ct ab (λn_ (_:Unit) i_=>f3 n_ i_ ct cD vo po se on) (λu i x k=>ai (!(uM ⟨vo,po,se,on⟩ i x)) (aq false) (k u)) (λ_=>f2 ct cD vo po se on) (λn_ u_ i_ qy=>?_) (λn_ u_=>?_) 100000 0 () ab ab).trans ((kJ _ (λ_=>f2 ct cD vo po se on) false ct 0).trans ?_)
     ·show gf i_ ct cD vo po se on f2 (f4 (f3 n_))=_;unfold gf uM;have e7:f4 (f3 n_) (i_:Int) ct cD vo po se on=f3 n_ (i64.wrap ((i_:Int)+1)) ct cD vo po se on:=rfl;rw[eh (by simp;omega),c9 qy,c9 (show i_<vo.length by omega),c9 (show i_<po.length by omega),toNat_nat,bQ qy,e7,wW (hn _ (bW qy))]
      simp only[eZ,ee,sj,Ir,bA,bB]
      simp only[kk,mi,Bool.or_assoc]
     ·show gf (ct.length:Int) ct cD vo po se on f2 (f4 (f3 n_))=_;unfold gf;rw[dF ae]
      rfl
     ·simp only[iG]
      rw[g2]
      exact gU aq _ _
def c:Ct:=⟨33,cj (A2 (aR .mP) (aR .state) λn s=>(gm n&&eR n,.bool (fO n s))),ir call33 func33 (a2 λn s e_=>(run n s).trans (aw n s e_))⟩
end yl
def EG(a b:ah Int):Bool:=a==b
def rR(a b:cO):Bool:=(a.ik==b.ik)&&((a.fH==b.fH)&&((a.gw==b.gw)&&(a.dH==b.dH)))
def uK(s:cO):Bool:=bU s.fH.length 90000&&(bU s.gw.length 90000&&(bU s.dH.length 90000&&bU s.ik.length 90000))
def D5(r:Rec):pM:=⟨r.em,r.eu,r.ea,r.er,r.eo⟩
def kS(a b:Rec):Bool:=(a.ek==b.ek)&&((a.es==b.es)&&((a.ei==b.ei)&&((a.el==b.el)&&((a.et==b.et)&&(((a.em==b.em)&&((a.eu==b.eu)&&((a.ea==b.ea)&&((a.er==b.er)&&(a.eo==b.eo)))))&&(a.ex==b.ex))))))
def sX(m:pM):Bool:=fj m.mn&&((bg 0 m.mu&&bg m.mu 1073741824)&&(mo 68719476736 m.ma&&(mo 68719476736 m.mr&&(bg m.ma m.mr&&(bg (-4194304) m.ml&&bg m.ml 4194304)))))
def OJ(x:Int):Bool:=bz x 32||bz 126 x
def C2(b:UInt8):Bool:=OJ (Int.ofNat b.toNat)
def Dp(s:ah UInt8):Bool:= !(List.any s C2)&&(bg 1 (Int.ofNat s.length)&&bg (Int.ofNat s.length) 500)
def kn(x:Int):Bool:=bz x 0||bz 1125899906842624 x
def fo(r:Rec):Rec:=
 bif r.ek==1 then⟨r.ek,r.es,r.ei,[],0,[],0,0,0,0,[]⟩else bif r.ek==2 then⟨r.ek,0,[],r.el,r.et,[],0,0,0,0,[]⟩
 else bif r.ek==3 then⟨r.ek,0,[],[],0,r.em,r.eu,r.ea,r.er,r.eo,[]⟩else bif r.ek==4 then⟨r.ek,0,[],[],0,[],0,0,0,0,r.ex⟩else⟨r.ek,0,[],[],0,[],0,0,0,0,[]⟩
def HX(r:Rec):Bool:=
 bif r.ek==1 then bg 1 r.es&&(bg r.es 86400&&(bg (Int.ofNat r.ei.length) 300&& !(List.any r.ei kn)))else bif r.ek==2 then fj r.el&&(bg 0 r.et&&bg r.et 1000)
 else bif r.ek==3 then sX (D5 r)else bif r.ek==4 then bg 1 (Int.ofNat r.ex.length)&&(bg (Int.ofNat r.ex.length) 500&& !(List.any r.ex C2))else false
def jI(r:Rec):Bool:=kS r (fo r)&&HX r
def tJ(r:Rec):Bool:=bU r.ei.length 90000&&bU r.ex.length 90000
theorem wh{α:Type} [BEq α]{a b:ah α}{i:Nat}(h1:i<a.length)(h2:i<b.length):(a.drop i==b.drop i)=((a[i]==b[i])&&(a.drop (i+1)==b.drop (i+1))):=by rw[fK h1,fK h2];rfl
theorem yF{α:Type} [BEq α] [LawfulBEq α]{a b:ah α}(h:a.length≠b.length):(a==b)=false:=by rw[beq_eq_false_iff_ne];rintro rfl;exact h rfl
theorem OG{a b:Nat}(h:a≠b):(Int.ofNat a !=Int.ofNat b)=true:=by rw[bne_iff_ne];exact λe=>h (hO e)
theorem OH{a b:Nat}(h:a=b):(Int.ofNat a !=Int.ofNat b)=false:=by rw[h];simp
namespace KQ
variable(a b:ah Int)
def X:=dp [] 26
def bd:=dG f59
def RR:bn U El:=λst=>cN (cS [4]) st (ch [4] [])
def eE:Norm U:=cS []
def dI:Norm U:=cS [0,1,5]
def an:gb U:=(.seq none .d (.seq none .d (.seq (some eE) (.seq none .d (.block (.loop dI .d))) .d)))
abbrev Y1:=R
abbrev Y2:=(ah Int)->(ah Int)->Int->R
def fY(a0 b1:ah Int)(i5:Int):St U El:=⟨[(0,.au .int a0),(1,.au .int b1),(5,.int .i64 i5)],[]⟩
def cX(k2:Y2):R:=ai ((Int.ofNat a.length) !=(Int.ofNat b.length)) (aq false) (k2 a b (0:Int))
def dR:R:=aq true
def dQ(a0 b1:ah Int)(i5:Int)(k1:Y1)(k2:Y2):R:=ai (bz i5 (Int.ofNat a0.length)) (aU (dV i5 a0.length) (aU (dV i5 b1.length) (ai ((a0.getD i5.toNat bF) !=(b1.getD i5.toNat bF)) (aq false) (k2 a0 b1 (i64.wrap (i5+(1:Int))))))) (k1)
abbrev ex:=kf X bd an RR
abbrev it:=nO X bd an RR
def gu(gW:bn U El):=it dI [1,1,0,1,0,0] (cu 0 (bG eE gW) nE)
def cQ:=ex [1,1,1] RR nE
def f1:R:=dR
def f2:Nat->Y2
 |0=>λ_ _ _=>none
 |n+1=>λa0 b1 i5=>dQ a0 b1 i5 f1 (f2 n)
def f0:R:=cX a b (f2 100000)
theorem E1:((hid cQ) ⟨[],[]⟩)=f1:=by refine cm ?_;unfold f1;exact aa
theorem T2:∀n,(λa0 b1 i5=>gu (hid cQ) n (fY a0 b1 i5))=f2 n:=by
 intro n;induction n with
 |zero=>rfl
 |succ n ih=>funext a0 b1 i5;rw[f2];rw[<-E1,<-ih];exact aa
theorem H2:(λa0 b1 i5=>hid (gu (hid cQ) 100000) (fY a0 b1 i5))=f2 100000:=by rw[cM];exact(T2 100000)
theorem run:ca X bd an (cS [4]) [4] [] [.au .int a,.au .int b]=f0 a b:=by unfold f0;rw[<-H2];exact aa
theorem loop:∀(n i:Nat) (a:ah Int),a.length=b.length->a.length<=90000->a.length<n+i->i<=a.length->f2 n a b (i:Int)=aq (a.drop i==b.drop i):=by
 intro n;induction n with
 |zero=>intro i a h1 h2 h3 h4;omega
 |succ n ih=>
  intro i a h1 h2 h3 h4;show dQ a b (i:Int) f1 (f2 n)=_;unfold dQ;by_cases hi:i<a.length
  ·have hj:i<b.length:=ab
   rw[eh (by simp;omega),c9 hi,c9 hj,toNat_nat,bQ hi,bQ hj,wh hi hj,eY i ab,ih (i+1) a h1 h2 ab hi]
   simp only[ee,eZ,bne,uj]
   cases a[i]==b[i]<;>rfl
  ·have e1:i=a.length:=ab
   subst e1;rw[dF ae,bH,h1,bH]
   rfl
theorem aw(h:bU a.length 90000=true):f0 a b=aq (EG a b):=by
 show cX a b (f2 100000)=_;unfold cX EG;by_cases e:a.length=b.length
 ·rw[OH e]
  exact loop b 100000 0 a e (ia h) (by have:=ia h;omega) ab
 ·rw[OG e,yF e];rfl
def c:Ct:=⟨59,cj (A2 (bL .int) (bL .int) λa b=>(bU a.length 90000,.bool (EG a b))),ir call59 func59 (a2 λa b e_=>(run a b).trans (aw a b e_))⟩
end KQ
namespace Dz
variable(a b:ah Int)
def X:=dp [] 26
def bd:=dG f50
def RR:bn U El:=λst=>cN (cS [4]) st (ch [4] [])
def eE:Norm U:=cS []
def dI:Norm U:=cS [0,1,5]
def an:gb U:=(.seq none .d (.seq none .d (.seq (some eE) (.seq none .d (.block (.loop dI .d))) .d)))
abbrev Y1:=R
abbrev Y2:=(ah Int)->(ah Int)->Int->R
def fY(a0 b1:ah Int)(i5:Int):St U El:=⟨[(0,.au .int a0),(1,.au .int b1),(5,.int .i64 i5)],[]⟩
def cX(k2:Y2):R:=ai ((Int.ofNat a.length) !=(Int.ofNat b.length)) (aq false) (k2 a b (0:Int))
def dR:R:=aq true
def dQ(a0 b1:ah Int)(i5:Int)(k1:Y1)(k2:Y2):R:=ai (bz i5 (Int.ofNat a0.length)) (aU (dV i5 a0.length) (aU (dV i5 b1.length) (ai ((a0.getD i5.toNat bF) !=(b1.getD i5.toNat bF)) (aq false) (k2 a0 b1 (i64.wrap (i5+(1:Int))))))) (k1)
abbrev ex:=kf X bd an RR
abbrev it:=nO X bd an RR
def gu(gW:bn U El):=it dI [1,1,0,1,0,0] (cu 0 (bG eE gW) nE)
def cQ:=ex [1,1,1] RR nE
def f1:R:=dR
def f2:Nat->Y2
 |0=>λ_ _ _=>none
 |n+1=>λa0 b1 i5=>dQ a0 b1 i5 f1 (f2 n)
def f0:R:=cX a b (f2 100000)
theorem E1:((hid cQ) ⟨[],[]⟩)=f1:=by refine cm ?_;unfold f1;exact aa
theorem T2:∀n,(λa0 b1 i5=>gu (hid cQ) n (fY a0 b1 i5))=f2 n:=by
 intro n;induction n with
 |zero=>rfl
 |succ n ih=>funext a0 b1 i5;rw[f2];rw[<-E1,<-ih];exact aa
theorem H2:(λa0 b1 i5=>hid (gu (hid cQ) 100000) (fY a0 b1 i5))=f2 100000:=by rw[cM];exact(T2 100000)
theorem run:ca X bd an (cS [4]) [4] [] [.au .int a,.au .int b]=f0 a b:=by unfold f0;rw[<-H2];exact aa
theorem loop:∀(n i:Nat) (a:ah Int),a.length=b.length->a.length<=90000->a.length<n+i->i<=a.length->f2 n a b (i:Int)=aq (a.drop i==b.drop i):=by
 intro n;induction n with
 |zero=>intro i a h1 h2 h3 h4;omega
 |succ n ih=>
  intro i a h1 h2 h3 h4;show dQ a b (i:Int) f1 (f2 n)=_;unfold dQ;by_cases hi:i<a.length
  ·have hj:i<b.length:=ab
   rw[eh (by simp;omega),c9 hi,c9 hj,toNat_nat,bQ hi,bQ hj,wh hi hj,eY i ab,ih (i+1) a h1 h2 ab hi]
   simp only[ee,eZ,bne,uj]
   cases a[i]==b[i]<;>rfl
  ·have e1:i=a.length:=ab
   subst e1;rw[dF ae,bH,h1,bH]
   rfl
theorem aw(h:bU a.length 90000=true):f0 a b=aq (EG a b):=by
 show cX a b (f2 100000)=_;unfold cX EG;by_cases e:a.length=b.length
 ·rw[OH e]
  exact loop b 100000 0 a e (ia h) (by have:=ia h;omega) ab
 ·rw[OG e,yF e];rfl
def c:Ct:=⟨50,cj (A2 (bL .int) (bL .int) λa b=>(bU a.length 90000,.bool (EG a b))),ir call50 func50 (a2 λa b e_=>(run a b).trans (aw a b e_))⟩
end Dz
namespace L9
variable(iB jB a b:ah Int)
def X:=dp [] 26
def bd:=dG f25
def RR:bn U El:=λst=>cN (cS [4]) st (ch [4] [])
def eE:Norm U:=cS []
def dI:Norm U:=cS [0,1,12,13]
def an:gb U:=(.seq none .d (.seq none .d (.seq (some eE) (.seq none .d (.block (.loop dI .d))) .d)))
abbrev Y1:=R
abbrev Y2:=(ah Int)->(ah Int)->Int->Int->R
def fY(bB gB:Int):St U El:=⟨[(0,.au .int iB),(1,.au .int jB),(12,.int .i64 bB),(13,.int .i64 gB)],[]⟩
def cX(k2:Y2):R:=ai ((Int.ofNat a.length) !=(Int.ofNat b.length)) (aq false) (k2 a b (Int.ofNat a.length) (0:Int))
def dR:R:=aq true
def dQ(bB gB:Int)(k1:Y1)(k2:Y2):R:=ai (bz gB bB) (aU (dV gB iB.length) (aU (dV gB jB.length) (ai ((iB.getD gB.toNat bF) !=(jB.getD gB.toNat bF)) (aq false) (k2 iB jB bB (i64.wrap (gB+(1:Int))))))) (k1)
abbrev ex:=kf X bd an RR
abbrev it:=nO X bd an RR
def gu(gW:bn U El):=it dI [1,1,0,1,0,0] (cu 0 (bG eE gW) nE)
def cQ:=ex [1,1,1] RR nE
def f1:R:=dR
def f2:Nat->Y2
 |0=>λ_ _ _ _=>none
 |n+1=>λiB jB bB gB=>dQ iB jB bB gB f1 (f2 n)
def f0:R:=cX a b (f2 100000)
theorem E1:((hid cQ) ⟨[],[]⟩)=f1:=by refine cm ?_;unfold f1;exact aa
theorem T2:∀n,(λiB jB bB gB=>gu (hid cQ) n (fY iB jB bB gB))=f2 n:=by
 intro n;induction n with
 |zero=>rfl
 |succ n ih=>funext iB jB bB gB;rw[f2];rw[<-E1,<-ih];exact aa
theorem H2:(λiB jB bB gB=>hid (gu (hid cQ) 100000) (fY iB jB bB gB))=f2 100000:=by rw[cM];exact(T2 100000)
theorem run:ca X bd an (cS [4]) [4] [] [.au .int a,.au .int b]=f0 a b:=by unfold f0;rw[<-H2];exact aa
theorem loop:∀(n i:Nat) (a:ah Int),a.length=b.length->a.length<=90000->a.length<n+i->i<=a.length->f2 n a b (Int.ofNat a.length) (i:Int)=aq (a.drop i==b.drop i):=by
 intro n;induction n with
 |zero=>intro i a h1 h2 h3 h4;omega
 |succ n ih=>
  intro i a h1 h2 h3 h4;show dQ a b (Int.ofNat a.length) (i:Int) f1 (f2 n)=_;unfold dQ;by_cases hi:i<a.length
  ·have hj:i<b.length:=ab
   rw[eh (by simp;omega),c9 hi,c9 hj,toNat_nat,bQ hi,bQ hj,wh hi hj,eY i ab,ih (i+1) a h1 h2 ab hi]
   simp only[ee,eZ,bne,uj]
   cases a[i]==b[i]<;>rfl
  ·have e1:i=a.length:=ab
   subst e1;rw[dF ae,bH,h1,bH]
   rfl
theorem aw(h:bU a.length 90000=true):f0 a b=aq (EG a b):=by
 show cX a b (f2 100000)=_;unfold cX EG;by_cases e:a.length=b.length
 ·rw[OH e]
  exact loop b 100000 0 a e (ia h) (by have:=ia h;omega) ab
 ·rw[OG e,yF e];rfl
def c:Ct:=⟨25,cj (A2 (bL .int) (bL .int) λa b=>(bU a.length 90000,.bool (EG a b))),ir call25 func25 (a2 λa b e_=>(run a b).trans (aw a b e_))⟩
end L9
namespace KO
variable(i5:Int)(zA aB:ah Int)(a b:cO)
def X:=dp [KQ.c] 50
def bd:=dG f20
def RR:bn U El:=λst=>cN (cS [4]) st (ch [4] [])
def eE:Norm U:=⟨[],[2,3],[2,3],[],[],[],[(2,0,.int),(2,1,.int),(2,2,.int),(2,3,.bool),(3,0,.int),(3,1,.int),(3,2,.int),(3,3,.bool)]⟩
def dI:Norm U:=⟨[],[2,3,5],[2,3],[],[],[],[(2,0,.int),(2,1,.int),(2,2,.int),(2,3,.bool),(3,0,.int),(3,1,.int),(3,2,.int),(3,3,.bool)]⟩
def an:gb U:=(.seq none .d (.seq none .d (.seq (some eE) (.seq none .d (.block (.loop dI .d))) .d)))
abbrev Y1:=(ah Int)->(ah Int)->(ah Int)->(ah Bool)->(ah Int)->(ah Int)->(ah Int)->(ah Bool)->R
abbrev Y2:=Int->(ah Int)->(ah Int)->(ah Int)->(ah Bool)->(ah Int)->(ah Int)->(ah Int)->(ah Bool)->R
def fY(cB:ah Int)(yA:ah Bool)(bA cA dA:ah Int)(aA:ah Bool):St U El:=⟨[(2,.ptr 2 0),(3,.ptr 3 0),(5,.int .i64 i5)],[(2,.box 0 [.au .int zA,.au .int aB,.au .int cB,.au .bool yA]),(3,.box 0 [.au .int bA,.au .int cA,.au .int dA,.au .bool aA])]⟩
def cX(k2:Y2):R:=ai ((Int.ofNat a.ik.length) !=(Int.ofNat b.ik.length)) (aq false) (k2 (0:Int) a.fH a.gw a.dH a.ik b.fH b.gw b.dH b.ik)
def dR(cB:ah Int)(yA:ah Bool)(bA cA dA:ah Int)(aA:ah Bool):R:=aU (bU zA.length 90000) (ai (EG zA bA) (aU (bU aB.length 90000) (ai (EG aB cA) (aU (bU cB.length 90000) (aq (EG cB dA))) (aq false))) (aq false))
def dQ(cB:ah Int)(yA:ah Bool)(bA cA dA:ah Int)(aA:ah Bool)(k1:Y1)(k2:Y2):R:=ai (bz i5 (Int.ofNat yA.length)) (aU (dV i5 yA.length) (aU (dV i5 aA.length) (ai (!((yA.getD i5.toNat jz)==(aA.getD i5.toNat jz))) (aq false) (k2 (i64.wrap (i5+(1:Int))) zA aB cB yA bA cA dA aA)))) (k1 zA aB cB yA bA cA dA aA)
abbrev ex:=kf X bd an RR
abbrev it:=nO X bd an RR
def gu(gW:bn U El):=it dI [1,1,0,1,0,0] (cu 0 (bG eE gW) nE)
def cQ:=ex [1,1,1] RR nE
def f1(cB:ah Int)(yA:ah Bool)(bA cA dA:ah Int)(aA:ah Bool):R:=dR zA aB cB yA bA cA dA aA
def f2:Nat->Y2
 |0=>λ_ _ _ _ _ _ _ _ _=>none
 |n+1=>λi5 zA aB cB yA bA cA dA aA=>dQ i5 zA aB cB yA bA cA dA aA f1 (f2 n)
def f0:R:=cX a b (f2 100000)
theorem E1:(λzA aB cB yA bA cA dA aA=>(hid cQ) ⟨[(2,.ptr 2 0),(3,.ptr 3 0)],[(2,.box 0 [.au .int zA,.au .int aB,.au .int cB,.au .bool yA]),(3,.box 0 [.au .int bA,.au .int cA,.au .int dA,.au .bool aA])]⟩)=f1:=by funext zA aB cB yA bA cA dA aA;refine cm ?_;unfold f1;exact aa
theorem T2:∀n,(λi5 zA aB cB yA bA cA dA aA=>gu (hid cQ) n (fY i5 zA aB cB yA bA cA dA aA))=f2 n:=by
 intro n;induction n with
 |zero=>rfl
 |succ n ih=>funext i5 zA aB cB yA bA cA dA aA;rw[f2];rw[<-E1,<-ih];exact aa
theorem H2:(λi5 zA aB cB yA bA cA dA aA=>hid (gu (hid cQ) 100000) (fY i5 zA aB cB yA bA cA dA aA))=f2 100000:=by rw[cM];exact(T2 100000)
theorem run:ca X bd an (cS [4]) [4] [] [eA .state a,eA .state b]=f0 a b:=by unfold f0;rw[<-H2];exact aa
theorem loop(h1:a.ik.length=b.ik.length)(h2:a.ik.length<=90000):∀(n i:Nat),a.ik.length<n+i->i<=a.ik.length->f2 n (i:Int) a.fH a.gw a.dH a.ik b.fH b.gw b.dH b.ik=ai (a.ik.drop i==b.ik.drop i) (f1 a.fH a.gw a.dH a.ik b.fH b.gw b.dH b.ik) (aq false):=by
 intro n;induction n with
 |zero=>intro i h3 h4;omega
 |succ n ih=>
  intro i h3 h4;show dQ (i:Int) a.fH a.gw a.dH a.ik b.fH b.gw b.dH b.ik f1 (f2 n)=_;unfold dQ;by_cases hi:i<a.ik.length
  ·have hj:i<b.ik.length:=ab
   rw[eh (by simp;omega),c9 hi,c9 hj,toNat_nat,bQ hi,bQ hj,wh hi hj,eY i ab,ih (i+1) ab hi]
   simp only[ee,eZ,uj]
   cases a.ik[i]==b.ik[i]<;>rfl
  ·have e1:i=a.ik.length:=ab
   subst e1;rw[dF ae,bH,h1,bH]
   rfl
theorem aw(h:uK a=true):f0 a b=aq (rR a b):=by
 simp only[uK,aj]at h;obtain⟨g1,g2,g3,g4⟩:=h;have g4:=ia g4;show cX a b (f2 100000)=_;unfold cX rR;by_cases e:a.ik.length=b.ik.length
 ·rw[OH e]
  refine(loop a b e g4 100000 0 ab ab).trans ?_;have hf:f1 a.fH a.gw a.dH a.ik b.fH b.gw b.dH b.ik=aq ((a.fH==b.fH)&&((a.gw==b.gw)&&(a.dH==b.dH))):=by
   show dR a.fH a.gw a.dH a.ik b.fH b.gw b.dH b.ik=_;unfold dR EG;rw[g1,g2,g3]
   simp only[eZ,gU]
  rw[hf]
  exact gU aq _ _
 ·rw[OG e,yF e];rfl
def c:Ct:=⟨20,cj (A2 (aR .state) (aR .state) λa b=>(uK a,.bool (rR a b))),ir call20 func20 (a2 λa b e_=>(run a b).trans (aw a b e_))⟩
end KO
namespace FV
variable(s:cO)
def X:=dp [] 20
def fM:Norm U:=⟨[],[20],[6,10,14,18],[],[],[],[]⟩
def RR:bn U El:=λst=>fz X 20 [(2,31)] 20 st λst=>cN fM st (qH [20])
def an:gb U:=(.seq none .d (.seq none (.region [(3,3),(7,7),(11,11),(15,15),(17,2)]) .d))
def f0:R:=aU (bU ((List.length ([]:ah Int)+List.length s.fH)*8) 140737488355328&&bU (List.length ([]:ah Int)+List.length s.fH) 9223372036854775807) (aU (bU ((List.length ([]:ah Int)+List.length s.gw)*8) 140737488355328&&bU (List.length ([]:ah Int)+List.length s.gw) 9223372036854775807) (aU (bU ((List.length ([]:ah Int)+List.length s.dH)*8) 140737488355328&&bU (List.length ([]:ah Int)+List.length s.dH) 9223372036854775807) (aU (bU ((List.length ([]:ah Bool)+List.length s.ik)*1) 140737488355328&&bU (List.length ([]:ah Bool)+List.length s.ik) 9223372036854775807) (some (.agg [.cf 6,.cf 10,.cf 14,.cf 18],[(6,(.rows .int (([]:ah Int)++s.fH))),(10,(.rows .int (([]:ah Int)++s.gw))),(14,(.rows .int (([]:ah Int)++s.dH))),(18,(.rows .bool (([]:ah Bool)++s.ik)))])))))
theorem run:Hm X (dG f39) an fM [(2,31)] [20] [] [.agg [.au .int s.fH,.au .int s.gw,.au .int s.dH,.au .bool s.ik]]=f0 s:=aa
theorem aw(h:uK s=true):f0 s=some (.agg [.cf 6,.cf 10,.cf 14,.cf 18],[(6,.rows .int s.fH),(10,.rows .int s.gw),(14,.rows .int s.dH),(18,.rows .bool s.ik)]):=by
 simp only[uK,aj]at h;obtain⟨g1,g2,g3,g4⟩:=h;have g1:=ia g1;have g2:=ia g2;have g3:=ia g3;have g4:=ia g4;unfold f0;rw[c_ (show(List.length ([]:ah Int)+s.fH.length)*8<=140737488355328 by simp;omega),c_ (show List.length ([]:ah Int)+s.fH.length<=9223372036854775807 by simp;omega),
  c_ (show(List.length ([]:ah Int)+s.gw.length)*8<=140737488355328 by simp;omega),c_ (show List.length ([]:ah Int)+s.gw.length<=9223372036854775807 by simp;omega),
  c_ (show(List.length ([]:ah Int)+s.dH.length)*8<=140737488355328 by simp;omega),c_ (show List.length ([]:ah Int)+s.dH.length<=9223372036854775807 by simp;omega),
  c_ (show(List.length ([]:ah Bool)+s.ik.length)*1<=140737488355328 by simp;omega),c_ (show List.length ([]:ah Bool)+s.ik.length<=9223372036854775807 by simp;omega)]
 rfl
theorem ok:bp prog X:=fV lq (ss _) pD
theorem jE:kZ prog X:=λg sp h=>by cases h
theorem spec(h:(uK s)=true):lT prog E 39 [(.agg [(.au .int s.fH),(.au .int s.gw),(.au .int s.dH),(.au .bool s.ik)])] [] (.agg [(.cf 6),(.cf 10),(.cf 14),(.cf 18)]) [(6,(.rows .int (cO.fH s))),(10,(.rows .int (cO.gw s))),(14,(.rows .int (cO.dH s))),(18,(.rows .bool (cO.ik s)))]:=pW ok jE func39 aa aa aa (by show 1<=20;decide) ((run s).trans (aw s h))
def sp:wF U El:=λargs hs k=>match args,hs with
 |[.agg [.au .int ji,.au .int jk,.au .int gG,.au .bool jm]],[]=>aU true (aU (uK (⟨ji,jk,gG,jm⟩:cO)) (k (.agg [.cf 6,.cf 10,.cf 14,.cf 18]) [(6,(.rows .int (cO.fH (⟨ji,jk,gG,jm⟩:cO)))),(10,(.rows .int (cO.gw (⟨ji,jk,gG,jm⟩:cO)))),(14,(.rows .int (cO.dH (⟨ji,jk,gG,jm⟩:cO)))),(18,(.rows .bool (cO.ik (⟨ji,jk,gG,jm⟩:cO))))]))
 |_,_=>none
theorem du:ql prog E 39 sp:=⟨call39,λargs hs k r h=>by
 unfold sp at h;split at h
 ·obtain⟨_,hA⟩:=aQ h;obtain⟨h1,hB⟩:=aQ hA;exact⟨_,_,spec ⟨_,_,_,_⟩ h1,hB⟩
 ·cases h⟩
theorem vE:∀args hs,∃oo:Option (AV U El×bI U El),∀k,sp args hs k=oo.bind λp=>k p.1 p.2:=λargs hs=>by
 unfold sp;split
 ·exact iC (iC ⟨some (_,_),λ_=>rfl⟩)
 ·exact⟨none,λ_=>rfl⟩
end FV
namespace u7
variable(l:ah Int)
def X:=dp [] 8
def fM:Norm U:=⟨[(2,.int)],[2],[2],[],[],[],[]⟩
def f0:R:=ai (lU 0 l.length) (aU (bU ((List.length ([]:ah Int)+List.length l)*8) 140737488355328&&bU (List.length ([]:ah Int)+List.length l) 9223372036854775807) (some (.cf 0,[(0,.rows .int (([]:ah Int)++l))]))) (J2 (some (.cf 0,[(0,.rows .int ([]:ah Int))])) (aU (bU ((List.length ([]:ah Int)+List.length l)*8) 140737488355328&&bU (List.length ([]:ah Int)+List.length l) 9223372036854775807) (some (.cf 0,[(0,.rows .int (([]:ah Int)++l))]))))
theorem run:ca X (dG f57) .d fM [2] [2] [.au .int l]=f0 l:=aa
theorem aw(h:(bU l.length 90000)=true):f0 l=some (.cf 0,[(0,.rows .int l)]):=by
 have hl:=ia h;unfold f0;rw[c_ (show(List.length ([]:ah Int)+l.length)*8<=140737488355328 by simp;omega),c_ (show List.length ([]:ah Int)+l.length<=9223372036854775807 by simp;omega)]
 cases l with
 |nil=>exact rf _
 |cons x l=>rfl
def c:Ct:=⟨57,ko (A1 (bL .int) λl=>(bU l.length 90000,(.cf 0,[(0,.rows .int (l))]))),zw call57 func57 (a1 λl e_=>⟨(run l).trans (aw l e_),rfl⟩)⟩
end u7
namespace GR
variable(l:ah Bool)
def X:=dp [] 8
def fM:Norm U:=⟨[(2,.bool)],[2],[2],[],[],[],[]⟩
def f0:R:=ai (lU 0 l.length) (aU (bU ((List.length ([]:ah Bool)+List.length l)*1) 140737488355328&&bU (List.length ([]:ah Bool)+List.length l) 9223372036854775807) (some (.cf 0,[(0,.rows .bool (([]:ah Bool)++l))]))) (J2 (some (.cf 0,[(0,.rows .bool ([]:ah Bool))])) (aU (bU ((List.length ([]:ah Bool)+List.length l)*1) 140737488355328&&bU (List.length ([]:ah Bool)+List.length l) 9223372036854775807) (some (.cf 0,[(0,.rows .bool (([]:ah Bool)++l))]))))
theorem run:ca X (dG f227) .d fM [2] [2] [.au .bool l]=f0 l:=aa
theorem aw(h:(bU l.length 90000)=true):f0 l=some (.cf 0,[(0,.rows .bool l)]):=by
 have hl:=ia h;unfold f0;rw[c_ (show(List.length ([]:ah Bool)+l.length)*1<=140737488355328 by simp;omega),c_ (show List.length ([]:ah Bool)+l.length<=9223372036854775807 by simp;omega)]
 cases l with
 |nil=>exact rf _
 |cons x l=>rfl
def c:Ct:=⟨227,ko (A1 (bL .bool) λl=>(bU l.length 90000,(.cf 0,[(0,.rows .bool (l))]))),zw call227 func227 (a1 λl e_=>⟨(run l).trans (aw l e_),rfl⟩)⟩
end GR
namespace mright
def X:=dp [Ca.c,uP.c,instant.c] 33
def f0(m:pM):R:=ai (fj m.mn) (ai (bg (0:Int) m.mu&&bg m.mu (1073741824:Int)) (ai (mo 68719476736 m.ma) (ai (mo 68719476736 m.mr) (ai (bg m.ma m.mr) (aq (bg (-4194304:Int) m.ml&&bg m.ml (4194304:Int))) (aq false)) (aq false)) (aq false)) (aq false)) (aq false)
theorem run(m):ca X (dG f176) .d (cS [2]) [2] [] [eA .msg m]=f0 m:=aa
theorem aw(m:pM):f0 m=aq (sX m):=by unfold f0 sX;simp only[gU]
def c:Ct:=⟨176,dU (A1 (aR .msg) λm=>(.bool (sX m))),oS call176 func176 (a1 λm=>(run m).trans (aw m))⟩
end mright
namespace Hq
def X:=dp [rv.c,O5.c] 43
def f0(m:pM):R:=ai (fj m.mn) (ai (bg (0:Int) m.mu) (ai (bg m.mu (1073741824:Int)) (ai (mo 68719476736 m.ma) (ai (mo 68719476736 m.mr) (ai (bg m.ma m.mr) (ai (bg (-4194304:Int) m.ml) (aq (bg m.ml (4194304:Int))) (aq false)) (aq false)) (aq false)) (aq false)) (aq false)) (aq false)) (aq false)
theorem run(m):ca X (dG f37) .d (cS [2]) [2] [] [eA .msg m]=f0 m:=aa
theorem aw(m:pM):f0 m=aq (sX m):=by unfold f0 sX;simp only[gU,iR]
def c:Ct:=⟨37,dU (A1 (aR .msg) λm=>(.bool (sX m))),oS call37 func37 (a1 λm=>(run m).trans (aw m))⟩
end Hq
namespace keyOf
def X:=dp [] 8
def fM:Norm U:=⟨[],[8],[],[],[],[],[]⟩
def f0(m:pM):R:=some (.agg [.str m.mn,.int .i64 m.mu],[])
theorem run(m):gH X (dG f177) .d fM [(2,249)] [8] [] [.agg [.str m.mn,.int .i64 m.mu,.int .i64 m.ma,.int .i64 m.mr,.int .i64 m.ml]]=f0 m:=aa
theorem aw(m:pM):f0 m=some (.agg [.str m.mn,.int .i64 m.mu],[]):=rfl
theorem ok:bp prog X:=fV lq (ss _) pD
theorem jE:kZ prog X:=λg sp h=>by cases h
theorem spec(m:pM):cV prog E 177 [(.agg [(.str m.mn),(.int .i64 m.mu),(.int .i64 m.ma),(.int .i64 m.mr),(.int .i64 m.ml)])] (.agg [(.str (((⟨pM.mn m,pM.mu m⟩:Key)).yn)),(.int .i64 (((⟨pM.mn m,pM.mu m⟩:Key)).yu))]) []:=cR ok jE call177 func177 aa aa aa (by show 1<=8;decide) af (by rfl) ((run m).trans (aw m))
def sp:Sp U El:=λargs k=>match args with
 |[.agg [.str NV,.int .i64 NT,.int .i64 NX,.int .i64 NU,.int .i64 NW]]=>k (.agg [(.str (((⟨pM.mn (⟨NV,NT,NX,NU,NW⟩:pM),pM.mu (⟨NV,NT,NX,NU,NW⟩:pM)⟩:Key)).yn)),(.int .i64 (((⟨pM.mn (⟨NV,NT,NX,NU,NW⟩:pM),pM.mu (⟨NV,NT,NX,NU,NW⟩:pM)⟩:Key)).yu))]) []
 |_=>none
theorem du:gQ prog E 177 sp where
 pe:=λvs=>by
  unfold sp;split
  ·exact⟨some (_,_),λ_=>rfl⟩
  ·exact⟨none,λ_=>rfl⟩
 ok:=λvs k r h=>by
  unfold sp at h;split at h
  ·exact⟨_,_,.inl (spec ⟨_,_,_,_,_⟩),h⟩
  ·cases h
end keyOf
namespace Lc
variable(gW:bn U El)(dB:ah pM)(eB:Int)(jW:bn U El)(l:ah pM)
def X:=dp [mright.c,⟨177,keyOf.sp,keyOf.du⟩] 29
def bd:=dG f104
def RR:bn U El:=λst=>cN (cS [2]) st (ch [2] [])
def eE:Norm U:=cS []
def dI:Norm U:=⟨[],[3,10,11,12],[9],[],[],[],[]⟩
def an:gb U:=(.seq none .d (.seq none .d (.seq none .d (.seq (some eE) (.seq none .d (.block (.loop dI (.seq none .d (.seq none .d (.seq (some dI) (.block (.seq none .d (.seq (some (⟨[],[3,5,10,11,12],[5,9],[],[],[],[]⟩)) .d .d))) .d)))))) .d))))
abbrev Y1:=R
abbrev Y2:=(ah pM)->Int->Int->(ah (Key×Bool))->R
abbrev Y3:=(ah pM)->Int->Int->(ah (Key×Bool))->R
abbrev Y4:=(ah pM)->Int->Int->pM->(ah (Key×Bool))->R
def fY(bB:Int)(m9:ah (Key×Bool)):St U El:=⟨[(3,.mp 9),(10,.au .msg dB),(11,.int .i64 eB),(12,.int .i64 bB)],[(9,.map .key .bool m9)]⟩
def cX(k2:Y2):R:=ai (bz (10000:Int) (Int.ofNat l.length)) (aq false) (k2 l (Int.ofNat l.length) (0:Int) ([]:ah (Key×Bool)))
def dR:R:=aq true
def dQ(bB:Int)(m9:ah (Key×Bool))(k1:Y1)(k4:Y4):R:=ai (bz bB eB) (aU (dV bB dB.length) (ai (!(sX (dB.getD bB.toNat ER))) (aq false) (ai (gL zW m9 ((⟨pM.mn (dB.getD bB.toNat ER),pM.mu (dB.getD bB.toNat ER)⟩:Key)) jz) (aq false) (k4 dB eB bB (dB.getD bB.toNat ER) m9)))) (k1)
def gf(bB:Int)(m9:ah (Key×Bool))(k2:Y2):R:=k2 dB eB (i64.wrap (bB+(1:Int))) m9
def l_(bB:Int)(b5:pM)(m9:ah (Key×Bool))(k3:Y3):R:=k3 dB eB bB (qu zW m9 ((⟨pM.mn b5,pM.mu b5⟩:Key)) true)
abbrev ex:=kf X bd an RR
abbrev it:=nO X bd an RR
def gu:=it dI [1,1,1,0,1,0,0] (cu 0 (bG eE gW) nE)
def cQ:=ex [1,1,1,1] RR nE
def mz(iP:bn U El):=ex [1,1,1,0,1,0,0,1,1,1] (bG dI iP) (cu 0 (bG eE gW) nE)
def pH(oV:bn U El):=ex [1,1,1,0,1,0,0,1,1,0,0,1,1] (bG dI oV) (cu 1 (bG dI oV) (cu 0 (bG eE gW) nE))
def f1:R:=dR
def f3(k2:Y2)(dB:ah pM)(eB bB:Int)(m9:ah (Key×Bool)):R:=gf dB eB bB m9 k2
def f4(k2:Y2)(dB:ah pM)(eB bB:Int)(b5:pM)(m9:ah (Key×Bool)):R:=l_ dB eB bB b5 m9 (f3 k2)
def f2:Nat->Y2
 |0=>λ_ _ _ _=>none
 |n+1=>λdB eB bB m9=>dQ dB eB bB m9 f1 (f4 (f2 n))
def f0:R:=cX l (f2 100000)
theorem E1:((hid cQ) ⟨[],[]⟩)=f1:=by refine cm ?_;unfold f1;exact aa
theorem E3(k2:Y2)(h2:(λdB eB bB m9=>jW (fY dB eB bB m9))=k2):(λdB eB bB m9=>(hid (mz (hid cQ) jW)) ⟨[(3,.mp 9),(10,.au .msg dB),(11,.int .i64 eB),(12,.int .i64 bB)],[(9,.map .key .bool m9)]⟩)=f3 k2:=by subst h2;funext dB eB bB m9;refine cm ?_;unfold f3;exact aa
theorem E4(k2:Y2)(h2:(λdB eB bB m9=>jW (fY dB eB bB m9))=k2):(λdB eB bB b5 m9=>(hid (pH (hid cQ) (hid (mz (hid cQ) jW)))) ⟨[(3,.mp 9),(5,.ptr 5 0),(10,.au .msg dB),(11,.int .i64 eB),(12,.int .i64 bB)],[(5,.box 0 [.str b5.mn,.int .i64 b5.mu,.int .i64 b5.ma,.int .i64 b5.mr,.int .i64 b5.ml]),(9,.map .key .bool m9)]⟩)=f4 k2:=by subst h2;funext dB eB bB b5 m9;refine cm ?_;unfold f4;rw[<-E3 jW _ rfl];exact aa
theorem T2:∀n,(λdB eB bB m9=>gu (hid cQ) n (fY dB eB bB m9))=f2 n:=by
 intro n;induction n with
 |zero=>rfl
 |succ n ih=>funext dB eB bB m9;rw[f2];rw[<-E1,<-E4 (gu (hid cQ) n) _ ih];exact aa
theorem H2:(λdB eB bB m9=>hid (gu (hid cQ) 100000) (fY dB eB bB m9))=f2 100000:=by rw[cM];exact(T2 100000)
theorem run:ca X bd an (cS [2]) [2] [] [.au .msg l]=f0 l:=by unfold f0;rw[<-H2];exact aa
theorem two(m:pM)(n:Nat):f2 (n+2) [m] 1 0 []=aq (sX m):=by
 show dQ [m] 1 0 [] f1 (f4 (f2 (n+1)))=_;unfold dQ;have e4:f4 (f2 (n+1)) [m] 1 0 m []=aq true:=by
  show dQ [m] 1 (i64.wrap ((0:Int)+1)) (qu zW [] (⟨m.mn,m.mu⟩:Key) true) f1 (f4 (f2 n))=_;unfold dQ;rw[show bz (i64.wrap ((0:Int)+1)) 1=false from rfl]
  rfl
 rw[show bz (0:Int) 1=true from rfl,show dV (0:Int) (List.length [m])=true from rfl]
 simp only[ee,eZ]
 rw[show List.getD [m] (Int.toNat 0) ER=m from rfl,e4]
 cases sX m<;>rfl
theorem aw(h:Nat.beq l.length 1=true):f0 l=aq (List.all l sX):=by
 have h:=al h;match l,h with
 |[m],_=>
  show cX [m] (f2 100000)=_;unfold cX;rw[show bz (10000:Int) (Int.ofNat (List.length [m]))=false from rfl]
  refine(two m 99998).trans ?_;simp
def c:Ct:=⟨104,cj (A1 (bL .msg) λl=>(Nat.beq l.length 1,.bool (List.all l sX))),ir call104 func104 (a1 λl e_=>(run l).trans (aw l e_))⟩
end Lc
namespace FK
variable(a b:Rec)
def X:=dp [Dz.c] 52
def f0:R:=ai (a.ek==b.ek) (ai (a.es==b.es) (aU (bU a.ei.length 90000) (ai (EG a.ei b.ei) (ai (a.el==b.el) (ai (a.et==b.et) (ai ((a.em==b.em)&&((a.eu==b.eu)&&((a.ea==b.ea)&&((a.er==b.er)&&((a.eo==b.eo)&&true))))) (aq (a.ex==b.ex)) (aq false)) (aq false)) (aq false)) (aq false))) (aq false)) (aq false)
theorem run:ca X (dG f17) .d (cS [4]) [4] [] [eA .jt a,eA .jt b]=f0 a b:=aa
theorem aw(h:bU (List.length (Rec.ei a)) 90000=true):f0 a b=aq (kS a b):=by
 unfold f0 kS EG;rw[h]
 simp only[eZ,gU,dJ]
def c:Ct:=⟨17,cj (A2 (aR .jt) (aR .jt) λa b=>((bU (List.length (Rec.ei a)) 90000),.bool (kS a b))),ir call17 func17 (a2 λa b e_=>(run a b).trans (aw a b e_))⟩
end FK
namespace L_
variable(a b:Rec)
def X:=dp [L9.c] 52
def f0:R:=ai (a.ek==b.ek) (ai (a.es==b.es) (aU (bU a.ei.length 90000) (ai (EG a.ei b.ei) (ai (a.el==b.el) (ai (a.et==b.et) (ai ((a.em==b.em)&&((a.eu==b.eu)&&((a.ea==b.ea)&&((a.er==b.er)&&((a.eo==b.eo)&&true))))) (aq (a.ex==b.ex)) (aq false)) (aq false)) (aq false)) (aq false))) (aq false)) (aq false)
theorem run:ca X (dG f99) .d (cS [4]) [4] [] [eA .jt a,eA .jt b]=f0 a b:=aa
theorem aw(h:bU (List.length (Rec.ei a)) 90000=true):f0 a b=aq (kS a b):=by
 unfold f0 kS EG;rw[h]
 simp only[eZ,gU,dJ]
def c:Ct:=⟨99,cj (A2 (aR .jt) (aR .jt) λa b=>((bU (List.length (Rec.ei a)) 90000),.bool (kS a b))),ir call99 func99 (a2 λa b e_=>(run a b).trans (aw a b e_))⟩
end L_
namespace FX
variable(r:Rec)
def X:=dp [] 36
def bd:=dG f100
def fM:Norm U:=⟨[],[36],[],[],[],[(36,2,.int)],[]⟩
def RR:bn U El:=λst=>fz X 36 [(2,42)] 36 st λst=>cN fM st (ch [36] [])
def an:gb U:=(.seq none .d (.seq none .d (.seq (some (⟨[],[2,3],[2,3],[],[],[],[(3,2,.int)]⟩)) (.seq none .d (.block (.seq none .d (.cond (.region [(5,3),(7,3)]) (.seq none .d (.cond (.region [(5,3),(7,3)]) .d)))))) .d)))
abbrev Y1:=Int->Int->(ah UInt8)->Int->(ah UInt8)->Int->Int->Int->Int->(ah UInt8)->Int->Int->(ah Int)->(ah UInt8)->Int->(ah UInt8)->Int->Int->Int->Int->(ah UInt8)->R
def cX(k1:Y1):R:=ai (r.ek==(1:Int)) (k1 (0:Int) (0:Int) ([]:ah UInt8) (0:Int) ([]:ah UInt8) (0:Int) (0:Int) (0:Int) (0:Int) ([]:ah UInt8) r.ek r.es r.ei ([]:ah UInt8) (0:Int) ([]:ah UInt8) (0:Int) (0:Int) (0:Int) (0:Int) ([]:ah UInt8)) (ai (r.ek==(2:Int)) (k1 (0:Int) (0:Int) ([]:ah UInt8) (0:Int) ([]:ah UInt8) (0:Int) (0:Int) (0:Int) (0:Int) ([]:ah UInt8) r.ek (0:Int) ([]:ah Int) r.el r.et ([]:ah UInt8) (0:Int) (0:Int) (0:Int) (0:Int) ([]:ah UInt8)) (ai (r.ek==(3:Int)) (k1 (0:Int) (0:Int) ([]:ah UInt8) (0:Int) ([]:ah UInt8) (0:Int) (0:Int) (0:Int) (0:Int) ([]:ah UInt8) r.ek (0:Int) ([]:ah Int) ([]:ah UInt8) (0:Int) r.em r.eu r.ea r.er r.eo ([]:ah UInt8)) (ai (r.ek==(4:Int)) (k1 (0:Int) (0:Int) ([]:ah UInt8) (0:Int) ([]:ah UInt8) (0:Int) (0:Int) (0:Int) (0:Int) ([]:ah UInt8) r.ek (0:Int) ([]:ah Int) ([]:ah UInt8) (0:Int) ([]:ah UInt8) (0:Int) (0:Int) (0:Int) (0:Int) r.ex) (k1 (0:Int) (0:Int) ([]:ah UInt8) (0:Int) ([]:ah UInt8) (0:Int) (0:Int) (0:Int) (0:Int) ([]:ah UInt8) r.ek (0:Int) ([]:ah Int) ([]:ah UInt8) (0:Int) ([]:ah UInt8) (0:Int) (0:Int) (0:Int) (0:Int) ([]:ah UInt8)))))
def dR(zA aB:Int)(yA:ah UInt8)(kB:Int)(lB:ah UInt8)(mB nB oB pB:Int)(fB:ah UInt8)(bA cA:Int)(dA:ah Int)(aA:ah UInt8)(iA:Int)(jA:ah UInt8)(kA lA mA nA:Int)(fA:ah UInt8):R:=some (.agg [.int .i64 bA,.int .i64 cA,.au .int dA,.str aA,.int .i64 iA,.str jA,.int .i64 kA,.int .i64 lA,.int .i64 mA,.int .i64 nA,.str fA],[])
abbrev ex:=kf X bd an RR
def cQ:=ex [1,1,1] RR nE
def f1(zA aB:Int)(yA:ah UInt8)(kB:Int)(lB:ah UInt8)(mB nB oB pB:Int)(fB:ah UInt8)(bA cA:Int)(dA:ah Int)(aA:ah UInt8)(iA:Int)(jA:ah UInt8)(kA lA mA nA:Int)(fA:ah UInt8):R:=dR zA aB yA kB lB mB nB oB pB fB bA cA dA aA iA jA kA lA mA nA fA
def f0:R:=cX r f1
theorem E1:(λzA aB yA kB lB mB nB oB pB fB bA cA dA aA iA jA kA lA mA nA fA=>(hid cQ) ⟨[(2,.ptr 2 0),(3,.ptr 3 0)],[(2,.box 0 [.int .i64 zA,.int .i64 aB,.cL,.str yA,.int .i64 kB,.str lB,.int .i64 mB,.int .i64 nB,.int .i64 oB,.int .i64 pB,.str fB]),(3,.box 0 [.int .i64 bA,.int .i64 cA,.au .int dA,.str aA,.int .i64 iA,.str jA,.int .i64 kA,.int .i64 lA,.int .i64 mA,.int .i64 nA,.str fA])]⟩)=f1:=by funext zA aB yA kB lB mB nB oB pB fB bA cA dA aA iA jA kA lA mA nA fA;refine cm ?_;unfold f1;exact aa
theorem run:gH X bd an fM [(2,42)] [36] [] [.agg [.int .i64 r.ek,.int .i64 r.es,.au .int r.ei,.str r.el,.int .i64 r.et,.str r.em,.int .i64 r.eu,.int .i64 r.ea,.int .i64 r.er,.int .i64 r.eo,.str r.ex]]=f0 r:=by unfold f0;rw[<-E1];exact aa
theorem aw:f0 r=some (.agg [.int .i64 (fo r).ek,.int .i64 (fo r).es,.au .int (fo r).ei,.str (fo r).el,.int .i64 (fo r).et,.str (fo r).em,.int .i64 (fo r).eu,.int .i64 (fo r).ea,.int .i64 (fo r).er,.int .i64 (fo r).eo,.str (fo r).ex],[]):=by
 show cX r f1=_;unfold cX fo;cases r.ek==1
 ·cases r.ek==2
  ·cases r.ek==3
   ·cases r.ek==4<;>rfl
   ·rfl
  ·rfl
 ·rfl
theorem ok:bp prog X:=fV lq (ss _) pD
theorem jE:kZ prog X:=λg sp h=>by cases h
theorem spec:cV prog E 100 [(.agg [(.int .i64 r.ek),(.int .i64 r.es),(.au .int r.ei),(.str r.el),(.int .i64 r.et),(.str r.em),(.int .i64 r.eu),(.int .i64 r.ea),(.int .i64 r.er),(.int .i64 r.eo),(.str r.ex)])] (.agg [(.int .i64 ((fo r).ek)),(.int .i64 ((fo r).es)),(.au .int ((fo r).ei)),(.str ((fo r).el)),(.int .i64 ((fo r).et)),(.str ((fo r).em)),(.int .i64 ((fo r).eu)),(.int .i64 ((fo r).ea)),(.int .i64 ((fo r).er)),(.int .i64 ((fo r).eo)),(.str ((fo r).ex))]) []:=cR ok jE call100 func100 aa aa aa (by show 1<=36;decide) af (by rfl) ((run r).trans (aw r))
def sp:Sp U El:=λargs k=>match args with
 |[.agg [.int .i64 sO,.int .i64 sI,.au .int sP,.str sN,.int .i64 sH,.str sM,.int .i64 sG,.int .i64 sQ,.int .i64 sJ,.int .i64 sL,.str sF]]=>k (.agg [(.int .i64 ((fo (⟨sO,sI,sP,sN,sH,sM,sG,sQ,sJ,sL,sF⟩:Rec)).ek)),(.int .i64 ((fo (⟨sO,sI,sP,sN,sH,sM,sG,sQ,sJ,sL,sF⟩:Rec)).es)),(.au .int ((fo (⟨sO,sI,sP,sN,sH,sM,sG,sQ,sJ,sL,sF⟩:Rec)).ei)),(.str ((fo (⟨sO,sI,sP,sN,sH,sM,sG,sQ,sJ,sL,sF⟩:Rec)).el)),(.int .i64 ((fo (⟨sO,sI,sP,sN,sH,sM,sG,sQ,sJ,sL,sF⟩:Rec)).et)),(.str ((fo (⟨sO,sI,sP,sN,sH,sM,sG,sQ,sJ,sL,sF⟩:Rec)).em)),(.int .i64 ((fo (⟨sO,sI,sP,sN,sH,sM,sG,sQ,sJ,sL,sF⟩:Rec)).eu)),(.int .i64 ((fo (⟨sO,sI,sP,sN,sH,sM,sG,sQ,sJ,sL,sF⟩:Rec)).ea)),(.int .i64 ((fo (⟨sO,sI,sP,sN,sH,sM,sG,sQ,sJ,sL,sF⟩:Rec)).er)),(.int .i64 ((fo (⟨sO,sI,sP,sN,sH,sM,sG,sQ,sJ,sL,sF⟩:Rec)).eo)),(.str ((fo (⟨sO,sI,sP,sN,sH,sM,sG,sQ,sJ,sL,sF⟩:Rec)).ex))]) []
 |_=>none
theorem du:gQ prog E 100 sp where
 pe:=λvs=>by
  unfold sp;split
  ·exact⟨some (_,_),λ_=>rfl⟩
  ·exact⟨none,λ_=>rfl⟩
 ok:=λvs k r h=>by
  unfold sp at h;split at h
  ·exact⟨_,_,.inl (spec ⟨_,_,_,_,_,_,_,_,_,_,_⟩),h⟩
  ·cases h
end FX
namespace YG
variable(x:Int)
def X:=dp [] 9
def f0:R:=ai (bz x (0:Int)) (aq true) (aq (bz (1125899906842624:Int) x))
theorem run:ca X (dG f102) .d (cS [2]) [2] [] [.int .i64 x]=f0 x:=aa
theorem aw:f0 x=aq (kn x):=PA aq _ _
def c:Ct:=⟨102,dU (A1 aI λx=>(.bool (kn x))),oS call102 func102 (a1 λx=>(run x).trans (aw x))⟩
end YG
namespace Sv
def X:=dp [YG.c] 19
def g:ah (AV U El)->Option (Bool×AV U El)
 |[.au .int l,.fn 102 [] []]=>some (bU l.length 90000,.int .i64 (dM kn 0 l))
 |_=>none
def c:Ct:=⟨173,cj g,ir call173 func173 λvs v h e=>by
 unfold g at h;split at h;cases h;exact qt (X:=X) e aa (λ_ _ _=>aa) aa;cases h⟩
end Sv
namespace Sw
def X:=dp [Sv.c] 9
def g:ah (AV U El)->Option (Bool×AV U El)
 |[.au .int l,.fn 102 [] []]=>some (bU l.length 90000,.bool (List.any l kn))
 |_=>none
def c:Ct:=⟨101,cj g,ir call101 func101 λvs v h e=>by
 unfold g at h;split at h;cases h;exact cont (X:=X) e aa;cases h⟩
end Sw
namespace YF
variable(x:Int)
def X:=dp [] 9
def f0:R:=ai (bz x (32:Int)) (aq true) (aq (bz (126:Int) x))
theorem run:ca X (dG f106) .d (cS [2]) [2] [] [.int .u8 x]=f0 x:=aa
theorem aw:f0 x=aq (OJ x):=PA aq _ _
def c:Ct:=⟨106,dU (A1 (aK .u8) λx=>(.bool (OJ x))),oS call106 func106 (a1 λx=>(run x).trans (aw x))⟩
end YF
namespace Ss
def X:=dp [YF.c] 19
def g:ah (AV U El)->Option (Bool×AV U El)
 |[.au .u8 l,.fn 106 [] []]=>some (bU l.length 90000,.int .i64 (dM C2 0 l))
 |_=>none
def c:Ct:=⟨178,cj g,ir call178 func178 λvs v h e=>by
 unfold g at h;split at h;cases h;exact qt (X:=X) e aa (λ_ _ _=>aa) aa;cases h⟩
end Ss
namespace Su
def X:=dp [Ss.c] 9
def g:ah (AV U El)->Option (Bool×AV U El)
 |[.au .u8 l,.fn 106 [] []]=>some (bU l.length 90000,.bool (List.any l C2))
 |_=>none
def c:Ct:=⟨105,cj g,ir call105 func105 λvs v h e=>by
 unfold g at h;split at h;cases h;exact cont (X:=X) e aa;cases h⟩
end Su
namespace xg
variable(r:Rec)
def X:=dp [L_.c,⟨100,FX.sp,FX.du⟩,Sw.c,uP.c,Lc.c,Su.c] 72
def f0:R:=aU (bU (List.length (Rec.ei r)) 90000) (ai (!(kS r (fo r))) (aq false) (ai (r.ek==(1:Int)) (ai (bg (1:Int) r.es) (ai (bg r.es (86400:Int)) (ai (bg (Int.ofNat r.ei.length) (300:Int)) (aU (bU r.ei.length 90000) (aq (!(List.any r.ei kn)))) (aq false)) (aq false)) (aq false)) (ai (r.ek==(2:Int)) (ai (fj r.el) (ai (bg (0:Int) r.et) (aq (bg r.et (1000:Int))) (aq false)) (aq false)) (ai (r.ek==(3:Int)) (aU (Nat.beq (List.length ([(⟨r.em,r.eu,r.ea,r.er,r.eo⟩:pM)]:ah pM)) 1) (aq (List.all ([(⟨r.em,r.eu,r.ea,r.er,r.eo⟩:pM)]:ah pM) sX))) (ai (r.ek==(4:Int)) (ai (bg (1:Int) (Int.ofNat r.ex.length)) (ai (bg (Int.ofNat r.ex.length) (500:Int)) (aU (bU r.ex.length 90000) (aq (!(List.any r.ex C2)))) (aq false)) (aq false)) (aq false))))))
theorem run:ca X (dG f52) .d (cS [2]) [2] [] [eA .jt r]=f0 r:=aa
theorem aw(h:tJ r=true):f0 r=aq (jI r):=by
 simp only[tJ,aj]at h;obtain⟨h1,h2⟩:=h;unfold f0 jI HX;rw[h1,h2]
 cases kS r (fo r)
 ·rfl
 ·simp only[eZ,fc,gy,dm,gU]
  cases r.ek==1
  ·cases r.ek==2
   ·cases r.ek==3
    ·cases r.ek==4<;>rfl
    ·simp[D5,aU,ai]
   ·rfl
  ·rfl
def c:Ct:=⟨52,cj (A1 (aR .jt) λr=>(tJ r,.bool (jI r))),ir call52 func52 (a1 λr e_=>(run r).trans (aw r e_))⟩
end xg
theorem E0{α:Type}(p:α->Bool)(l:ah α)(i:Nat)(h:i<l.length):List.any (l.drop i) p=(p l[i]||List.any (l.drop (i+1)) p):=by rw[fK h];rfl
namespace O6
variable(gW:bn U El)(s0:ah UInt8)(i3:Int)(s:ah UInt8)
def X:=dp [] 28
def bd:=dG f38
def RR:bn U El:=λst=>cN (cS [2]) st (ch [2] [])
def eE:Norm U:=cS [0]
def dI:Norm U:=cS [0,3]
def an:gb U:=(.seq none .d (.seq (some eE) (.seq none .d (.block (.loop dI (.seq none .d (.seq (some dI) .d .d))))) .d))
abbrev Y1:=(ah UInt8)->R
abbrev Y2:=(ah UInt8)->Int->R
abbrev Y3:=(ah UInt8)->Int->R
def fY:St U El:=⟨[(0,.str s0),(3,.int .i64 i3)],[]⟩
def cX(k2:Y2):R:=k2 s (0:Int)
def dR:R:=ai (bg (1:Int) (Int.ofNat s0.length)) (aq (bg (Int.ofNat s0.length) (500:Int))) (aq false)
def dQ(k1:Y1)(k3:Y3):R:=ai (bz i3 (Int.ofNat s0.length)) (aU (dV i3 s0.length) (ai (bz (Int.ofNat (UInt8.toNat (List.getD s0 i3.toNat 0))) (32:Int)) (aq false) (aU (dV i3 s0.length) (ai (bz (126:Int) (Int.ofNat (UInt8.toNat (List.getD s0 i3.toNat 0)))) (aq false) (k3 s0 i3))))) (k1 s0)
def gf(k2:Y2):R:=k2 s0 (i64.wrap (i3+(1:Int)))
abbrev ex:=kf X bd an RR
abbrev it:=nO X bd an RR
def gu:=it dI [1,0,1,0,0] (cu 0 (bG eE gW) nE)
def cQ:=ex [1,1] RR nE
def mz(iP:bn U El):=ex [1,0,1,0,0,1,1] (bG dI iP) (cu 0 (bG eE gW) nE)
def f1:R:=dR s0
def f3(k2:Y2)(s0:ah UInt8)(i3:Int):R:=gf s0 i3 k2
def f2:Nat->Y2
 |0=>λ_ _=>none
 |n+1=>λs0 i3=>dQ s0 i3 f1 (f3 (f2 n))
def f0:R:=cX s (f2 100000)
theorem E1:(λs0=>(hid cQ) ⟨[(0,.str s0)],[]⟩)=f1:=by funext s0;refine cm ?_;unfold f1;exact aa
theorem E3(jW:bn U El)(k2:Y2)(h2:(λs0 i3=>jW (fY s0 i3))=k2):(λs0 i3=>(hid (mz (hid cQ) jW)) ⟨[(0,.str s0),(3,.int .i64 i3)],[]⟩)=f3 k2:=by subst h2;funext s0 i3;refine cm ?_;unfold f3;exact aa
theorem T2:∀n,(λs0 i3=>gu (hid cQ) n (fY s0 i3))=f2 n:=by
 intro n;induction n with
 |zero=>rfl
 |succ n ih=>funext s0 i3;rw[f2];rw[<-E1,<-E3 (gu (hid cQ) n) _ ih];exact aa
theorem H2:(λs0 i3=>hid (gu (hid cQ) 100000) (fY s0 i3))=f2 100000:=by rw[cM];exact(T2 100000)
theorem run:ca X bd an (cS [2]) [2] [] [.str s]=f0 s:=by unfold f0;rw[<-H2];exact aa
theorem loop(hl:s.length<=90000):∀(n i:Nat),s.length<n+i->i<=s.length->f2 n s (i:Int)=ai (List.any (s.drop i) C2) (aq false) (f1 s):=by
 intro n;induction n with
 |zero=>intro i h1 h2;omega
 |succ n ih=>
  intro i h1 h2;show dQ s (i:Int) f1 (f3 (f2 n))=_;unfold dQ;by_cases hi:i<s.length
  ·have e3:f3 (f2 n) s (i:Int)=f2 n s (i64.wrap ((i:Int)+1)):=rfl;rw[eh (by simp;omega),c9 hi,toNat_nat,bQ hi,E0 _ _ _ hi,e3,eY i ab,ih (i+1) ab hi]
   simp only[eZ,ee,sj]
   unfold C2 OJ;rw[Bool.or_assoc]
  ·have:i=s.length:=ab
   subst this;rw[dF ae,bH]
   rfl
theorem aw(h:bU s.length 90000=true):f0 s=aq (Dp s):=by
 refine(loop s (ia h) 100000 0 (by have:=ia h;omega) ab).trans ?_;rw[fq,show f1 s=aq (bg 1 (Int.ofNat s.length)&&bg (Int.ofNat s.length) 500)from gU aq _ _]
 unfold Dp;cases List.any s C2<;>rfl
def c:Ct:=⟨38,cj (A1 aS λs=>(bU s.length 90000,.bool (Dp s))),ir call38 func38 (a1 λs e_=>(run s).trans (aw s e_))⟩
end O6
namespace DA
variable(i4 pA qA:Int)(oA:ah Int)(rA:ah UInt8)(sA:Int)(tA:ah UInt8)(uA vA wA xA:Int)(gA:ah UInt8)(gW:bn U El)(r:Rec)
def X:=dp [FK.c,Ch.c,rv.c,Hq.c,O6.c] 89
def bd:=dG Tryz.f8
def RR:bn U El:=λst=>cN (cS [2]) st (ch [2] [])
def eE:Norm U:=⟨[],[1,3],[1,3],[],[],[],[(1,2,.int),(3,2,.int)]⟩
def jY:Norm U:=⟨[],[1,3,4],[1,3],[],[],[],[(1,2,.int),(3,2,.int)]⟩
def an:gb U:=(.seq none .d (.seq none .d (.seq (some eE) (.seq none .d (.block (.seq none .d (.cond (.seq none .d (.seq none .d (.seq (some eE) .d (.seq none .d (.block (.loop jY .d)))))) .d)))) .d)))
abbrev Y1:=Int->Int->(ah Int)->(ah UInt8)->Int->(ah UInt8)->Int->Int->Int->Int->(ah UInt8)->Int->Int->(ah Int)->(ah UInt8)->Int->(ah UInt8)->Int->Int->Int->Int->(ah UInt8)->R
abbrev Y2:=Int->Int->(ah Int)->(ah UInt8)->Int->(ah UInt8)->Int->Int->Int->Int->(ah UInt8)->Int->Int->(ah Int)->(ah UInt8)->Int->(ah UInt8)->Int->Int->Int->Int->(ah UInt8)->R
abbrev Y3:=Int->Int->Int->(ah Int)->(ah UInt8)->Int->(ah UInt8)->Int->Int->Int->Int->(ah UInt8)->Int->Int->(ah Int)->(ah UInt8)->Int->(ah UInt8)->Int->Int->Int->Int->(ah UInt8)->R
def nz(bA cA:Int)(dA:ah Int)(aA:ah UInt8)(iA:Int)(jA:ah UInt8)(kA lA mA nA:Int)(fA:ah UInt8):St U El:=⟨[(1,.ptr 1 0),(3,.ptr 3 0),(4,.int .i64 i4)],[(1,.box 0 [.int .i64 pA,.int .i64 qA,.au .int oA,.str rA,.int .i64 sA,.str tA,.int .i64 uA,.int .i64 vA,.int .i64 wA,.int .i64 xA,.str gA]),(3,.box 0 [.int .i64 bA,.int .i64 cA,.au .int dA,.str aA,.int .i64 iA,.str jA,.int .i64 kA,.int .i64 lA,.int .i64 mA,.int .i64 nA,.str fA])]⟩
def cX(k1:Y1)(k2:Y2):R:=ai (r.ek==(1:Int)) (ai (bz r.es (1:Int)) (aq false) (ai (bz (86400:Int) r.es) (aq false) (ai (bz (300:Int) (Int.ofNat r.ei.length)) (aq false) (k2 r.ek r.es r.ei r.el r.et r.em r.eu r.ea r.er r.eo r.ex r.ek r.es r.ei ([]:ah UInt8) (0:Int) ([]:ah UInt8) (0:Int) (0:Int) (0:Int) (0:Int) ([]:ah UInt8))))) (ai (r.ek==(2:Int)) (ai (!(fj r.el)) (aq false) (ai (bz r.et (0:Int)) (aq false) (ai (bz (1000:Int) r.et) (aq false) (k1 r.ek r.es r.ei r.el r.et r.em r.eu r.ea r.er r.eo r.ex r.ek (0:Int) ([]:ah Int) r.el r.et ([]:ah UInt8) (0:Int) (0:Int) (0:Int) (0:Int) ([]:ah UInt8))))) (ai (r.ek==(3:Int)) (ai (!(sX (⟨r.em,r.eu,r.ea,r.er,r.eo⟩:pM))) (aq false) (k1 r.ek r.es r.ei r.el r.et r.em r.eu r.ea r.er r.eo r.ex r.ek (0:Int) ([]:ah Int) ([]:ah UInt8) (0:Int) r.em r.eu r.ea r.er r.eo ([]:ah UInt8))) (ai (r.ek==(4:Int)) (aU (bU r.ex.length 90000) (ai (!(Dp r.ex)) (aq false) (k1 r.ek r.es r.ei r.el r.et r.em r.eu r.ea r.er r.eo r.ex r.ek (0:Int) ([]:ah Int) ([]:ah UInt8) (0:Int) ([]:ah UInt8) (0:Int) (0:Int) (0:Int) (0:Int) r.ex))) (aq false))))
def dR(bA cA:Int)(dA:ah Int)(aA:ah UInt8)(iA:Int)(jA:ah UInt8)(kA lA mA nA:Int)(fA:ah UInt8):R:=aU (bU (List.length (Rec.ei (⟨pA,qA,oA,rA,sA,tA,uA,vA,wA,xA,gA⟩:Rec))) 90000) (aq (kS (⟨pA,qA,oA,rA,sA,tA,uA,vA,wA,xA,gA⟩:Rec) (⟨bA,cA,dA,aA,iA,jA,kA,lA,mA,nA,fA⟩:Rec)))
def dQ(bA cA:Int)(dA:ah Int)(aA:ah UInt8)(iA:Int)(jA:ah UInt8)(kA lA mA nA:Int)(fA:ah UInt8)(k3:Y3):R:=k3 (0:Int) pA qA oA rA sA tA uA vA wA xA gA bA cA dA aA iA jA kA lA mA nA fA
def gf(bA cA:Int)(dA:ah Int)(aA:ah UInt8)(iA:Int)(jA:ah UInt8)(kA lA mA nA:Int)(fA:ah UInt8)(k1:Y1)(k3:Y3):R:=ai (bz i4 (Int.ofNat oA.length)) (aU (dV i4 oA.length) (ai (!(bg 0 (oA.getD i4.toNat bF)&&bg (oA.getD i4.toNat bF) 1125899906842624)) (aq false) (k3 (i64.wrap (i4+(1:Int))) pA qA oA rA sA tA uA vA wA xA gA bA cA dA aA iA jA kA lA mA nA fA))) (k1 pA qA oA rA sA tA uA vA wA xA gA bA cA dA aA iA jA kA lA mA nA fA)
abbrev ex:=kf X bd an RR
abbrev it:=nO X bd an RR
def nU:=it jY [1,1,0,1,0,1,0,1,1,1,1,0,0] (cu 1 (bG eE gW) (cu 0 (bG eE gW) nE))
def cQ:=ex [1,1,1] RR nE
def ib:=ex [1,1,0,1,0,1,0,1,1,1] (bG eE gW) (cu 0 (bG eE gW) nE)
def f1(bA cA:Int)(dA:ah Int)(aA:ah UInt8)(iA:Int)(jA:ah UInt8)(kA lA mA nA:Int)(fA:ah UInt8):R:=dR pA qA oA rA sA tA uA vA wA xA gA bA cA dA aA iA jA kA lA mA nA fA
def f3:Nat->Y3
 |0=>λ_ _ _ _ _ _ _ _ _ _ _ _ _ _ _ _ _ _ _ _ _ _ _=>none
 |n+1=>λi4 pA qA oA rA sA tA uA vA wA xA gA bA cA dA aA iA jA kA lA mA nA fA=>gf i4 pA qA oA rA sA tA uA vA wA xA gA bA cA dA aA iA jA kA lA mA nA fA f1 (f3 n)
def f2(bA cA:Int)(dA:ah Int)(aA:ah UInt8)(iA:Int)(jA:ah UInt8)(kA lA mA nA:Int)(fA:ah UInt8):R:=dQ pA qA oA rA sA tA uA vA wA xA gA bA cA dA aA iA jA kA lA mA nA fA (f3 100000)
def f0:R:=cX r f1 f2
theorem E1:(λpA qA oA rA sA tA uA vA wA xA gA bA cA dA aA iA jA kA lA mA nA fA=>(hid cQ) ⟨[(1,.ptr 1 0),(3,.ptr 3 0)],[(1,.box 0 [.int .i64 pA,.int .i64 qA,.au .int oA,.str rA,.int .i64 sA,.str tA,.int .i64 uA,.int .i64 vA,.int .i64 wA,.int .i64 xA,.str gA]),(3,.box 0 [.int .i64 bA,.int .i64 cA,.au .int dA,.str aA,.int .i64 iA,.str jA,.int .i64 kA,.int .i64 lA,.int .i64 mA,.int .i64 nA,.str fA])]⟩)=f1:=by funext pA qA oA rA sA tA uA vA wA xA gA bA cA dA aA iA jA kA lA mA nA fA;refine cm ?_;unfold f1;exact aa
theorem T3:∀n,(λi4 pA qA oA rA sA tA uA vA wA xA gA bA cA dA aA iA jA kA lA mA nA fA=>nU (hid cQ) n (nz i4 pA qA oA rA sA tA uA vA wA xA gA bA cA dA aA iA jA kA lA mA nA fA))=f3 n:=by
 intro n;induction n with
 |zero=>rfl
 |succ n ih=>funext i4 pA qA oA rA sA tA uA vA wA xA gA bA cA dA aA iA jA kA lA mA nA fA;rw[f3];rw[<-E1,<-ih];exact aa
theorem H3:(λi4 pA qA oA rA sA tA uA vA wA xA gA bA cA dA aA iA jA kA lA mA nA fA=>hid (nU (hid cQ) 100000) (nz i4 pA qA oA rA sA tA uA vA wA xA gA bA cA dA aA iA jA kA lA mA nA fA))=f3 100000:=by rw[cM];exact(T3 100000)
theorem E2:(λpA qA oA rA sA tA uA vA wA xA gA bA cA dA aA iA jA kA lA mA nA fA=>(hid (ib (hid cQ))) ⟨[(1,.ptr 1 0),(3,.ptr 3 0)],[(1,.box 0 [.int .i64 pA,.int .i64 qA,.au .int oA,.str rA,.int .i64 sA,.str tA,.int .i64 uA,.int .i64 vA,.int .i64 wA,.int .i64 xA,.str gA]),(3,.box 0 [.int .i64 bA,.int .i64 cA,.au .int dA,.str aA,.int .i64 iA,.str jA,.int .i64 kA,.int .i64 lA,.int .i64 mA,.int .i64 nA,.str fA])]⟩)=f2:=by funext pA qA oA rA sA tA uA vA wA xA gA bA cA dA aA iA jA kA lA mA nA fA;refine cm ?_;unfold f2;rw[<-H3];exact aa
theorem run:ca X bd an (cS [2]) [2] [] [eA .jt r]=f0 r:=by unfold f0;rw[<-E1,<-E2];exact aa
theorem loop(o:Rec)(h2:r.ei.length<=90000):∀(n i:Nat),r.ei.length<n+i->i<=r.ei.length->f3 n (i:Int) r.ek r.es r.ei r.el r.et r.em r.eu r.ea r.er r.eo r.ex o.ek o.es o.ei o.el o.et o.em o.eu o.ea o.er o.eo o.ex=ai (List.any (r.ei.drop i) kn) (aq false) (aq (kS r o)):=by
 intro n;induction n with
 |zero=>intro i h1 h2;omega
 |succ n ih=>
  intro i h1 h3;show gf (i:Int) r.ek r.es r.ei r.el r.et r.em r.eu r.ea r.er r.eo r.ex o.ek o.es o.ei o.el o.et o.em o.eu o.ea o.er o.eo o.ex f1 (f3 n)=_;unfold gf;by_cases hi:i<r.ei.length
  ·rw[eh (by simp;omega),c9 hi,toNat_nat,bQ hi,E0 _ _ _ hi,eY i ab,ih (i+1) ab hi]
   simp only[eZ,ee]
   rw[show(!(bg 0 r.ei[i]&&bg r.ei[i] 1125899906842624))=kn r.ei[i] by rw[kk,mi,mi];rfl]
   cases kn r.ei[i]<;>rfl
  ·have:i=r.ei.length:=ab
   subst this;rw[dF ae,bH]
   show aU (bU r.ei.length 90000) _=_;rw[c_ h2];rfl
theorem aw(h:tJ r=true):f0 r=aq (jI r):=by
 simp only[tJ,aj]at h;obtain⟨h1,h2⟩:=h;have hl:=ia h1;show cX r f1 f2=_;unfold cX jI;have e1:∀o:Rec,f1 r.ek r.es r.ei r.el r.et r.em r.eu r.ea r.er r.eo r.ex o.ek o.es o.ei o.el o.et o.em o.eu o.ea o.er o.eo o.ex=aq (kS r o):=λo=>by
  show aU (bU r.ei.length 90000) _=_;rw[h1];rfl
 have e2:f2 r.ek r.es r.ei r.el r.et r.em r.eu r.ea r.er r.eo r.ex r.ek r.es r.ei [] 0 [] 0 0 0 0 []=ai (List.any r.ei kn) (aq false) (aq (kS r ⟨r.ek,r.es,r.ei,[],0,[],0,0,0,0,[]⟩)):=by
  have:=loop r ⟨r.ek,r.es,r.ei,[],0,[],0,0,0,0,[]⟩ hl 100000 0 ab ab
  rw[fq]at this;exact this
 rw[e2,h2,e1 ⟨r.ek,0,[],r.el,r.et,[],0,0,0,0,[]⟩,e1 ⟨r.ek,0,[],[],0,r.em,r.eu,r.ea,r.er,r.eo,[]⟩,e1 ⟨r.ek,0,[],[],0,[],0,0,0,0,r.ex⟩]
 unfold HX fo Dp;simp only[<-mi,eZ,uj]
 cases r.ek==1
 ·cases r.ek==2
  ·cases r.ek==3
   ·cases r.ek==4
    ·simp only[gy,cond_false,gE]
    ·simp only[gy,ee,cond_false,cond_true]
     generalize List.any r.ex C2=a,bg 1 (Int.ofNat r.ex.length)=b,bg (Int.ofNat r.ex.length) 500=c;cases a<;>cases b<;>cases c<;>(first|rfl|simp only[dJ,gE,iQ,fc,Bool.and_self]<;>rfl)
   ·simp only[gy,ee,cond_false,cond_true]
    show ai (sX (D5 r)) _ _=_;cases sX (D5 r)<;>simp only[gy,ee,dJ,gE]
  ·simp only[gy,ee,cond_false,cond_true]
   generalize fj r.el=a,bg 0 r.et=b,bg r.et 1000=c;cases a<;>cases b<;>cases c<;>simp only[gy,ee,dJ,gE,Bool.and_self]
 ·simp only[gy,ee,cond_false,cond_true]
  generalize List.any r.ei kn=a,bg 1 r.es=b,bg r.es 86400=c,bg (Int.ofNat r.ei.length) 300=d;cases a<;>cases b<;>cases c<;>cases d<;>simp only[gy,ee,dJ,gE,Bool.and_self,iQ,fc]
def c:Ct:=⟨8,cj (A1 (aR .jt) λr=>(tJ r,.bool (jI r))),ir call8 func8 (a1 λr e_=>(run r).trans (aw r e_))⟩
end DA
def Mo(a:cH)(x:Int):Int:=bif bz a.kx x then-1 else bif bz x a.kx then 1 else 0
def mM(y:Int)(a:cH):Bool:=bz y a.ky
def yT(lE length:Int):Bool:=bg 0 lE&&(bg lE 4194304&&(bg 1 length&&bg length 16777216))
def PX(p:Int×Bool):Fin U El:=(.bP [.int .i64 p.1,.bool p.2],[])
namespace YP
variable(a:cH)(x:Int)
def X:=dp [] 15
def f0:R:=ai (bz a.kx x) (gl (-1:Int)) (ai (bz x a.kx) (gl (1:Int)) (gl (0:Int)))
theorem run:ca X (dG f492) .d (cS [4]) [4] [] [eA .cP a,.int .i64 x]=f0 a x:=aa
theorem aw:f0 a x=gl (Mo a x):=by
 unfold f0 Mo;cases bz a.kx x
 ·cases bz x a.kx<;>rfl
 ·rfl
def c:Ct:=⟨492,dU (A2 (aR .cP) aI λa x=>(.int .i64 (Mo a x))),oS call492 func492 (a2 λa x=>(run a x).trans (aw a x))⟩
end YP
theorem Wq(i j:Nat)(h:i+j<=1000000):i64.wrap (Int.fdiv (u64.wrap (i64.wrap ((i:Int)+(j:Int)))) (2^min (Int.toNat (1:Int)) (IntKind.bits .u64)))=(((i+j)/2:Nat):Int):=by
 have e:∀x:Int,Int.fdiv x (2^min (Int.toNat (1:Int)) (IntKind.bits .u64))=x/2:=λx=>fR _ af
 rw[e,jD (x:=(i:Int)+j) ab ab,pT ab ab,jD ab ab]
 omega
namespace bsf
variable(x0:ah cH)(aA n8 i9 mA:Int)(t:ah cH)(x:Int)
def X:=dp [YP.c] 49
def bd:=dG f491
def RR:bn U El:=λst=>cN (cS [6,7]) st (ch [6,7] [])
def eE:Norm U:=cS [0,1,2,8,9]
def dI:Norm U:=cS [0,1,2,8,9,10]
def an:gb U:=(.seq none .d (.seq none .d (.seq none .d (.seq (some eE) (.block (.loop dI .d)) .d))))
abbrev Y1:=(ah cH)->Int->Int->Int->R
abbrev Y2:=(ah cH)->Int->Int->Int->Int->R
def fY:St U El:=⟨[(0,.au .cP x0),(1,.int .i64 aA),(2,.fn 492 [] []),(8,.int .i64 n8),(9,.int .i64 i9),(10,.int .i64 mA)],[]⟩
def cX(k2:Y2):R:=k2 t x (Int.ofNat t.length) (0:Int) (Int.ofNat t.length)
def dR:R:=ai (bz i9 n8) (aU (dV i9 x0.length) (some ((.bP [.int .i64 i9,(.bool ((Mo (x0.getD i9.toNat cE) aA)==(0:Int)))]),[]))) (some (.bP [.int .i64 i9,.bool false],[]))
def dQ(k1:Y1)(k2:Y2):R:=ai (bz i9 mA) (aU (dV (i64.wrap (Int.fdiv (u64.wrap (i64.wrap (i9+mA))) (2^min (Int.toNat (1:Int)) (IntKind.bits .u64)))) x0.length) (ai (bz (Mo (List.getD x0 (Int.toNat (i64.wrap (Int.fdiv (u64.wrap (i64.wrap (i9+mA))) (2^min (Int.toNat (1:Int)) (IntKind.bits .u64))))) cE) aA) (0:Int)) (k2 x0 aA n8 (i64.wrap ((i64.wrap (Int.fdiv (u64.wrap (i64.wrap (i9+mA))) (2^min (Int.toNat (1:Int)) (IntKind.bits .u64))))+(1:Int))) mA) (k2 x0 aA n8 i9 (i64.wrap (Int.fdiv (u64.wrap (i64.wrap (i9+mA))) (2^min (Int.toNat (1:Int)) (IntKind.bits .u64))))))) (k1 x0 aA n8 i9)
abbrev ex:=kf X bd an RR
abbrev it:=nO X bd an RR
def gu(gW:bn U El):=it dI [1,1,1,0,0,0] (cu 0 (bG eE gW) nE)
def cQ:=ex [1,1,1,1] RR nE
def f1:R:=dR x0 aA n8 i9
def f2:Nat->Y2
 |0=>λ_ _ _ _ _=>none
 |n+1=>λx0 aA n8 i9 mA=>dQ x0 aA n8 i9 mA f1 (f2 n)
def f0:R:=cX t x (f2 100000)
theorem E1:(λx0 aA n8 i9=>(hid cQ) ⟨[(0,.au .cP x0),(1,.int .i64 aA),(2,.fn 492 [] []),(8,.int .i64 n8),(9,.int .i64 i9)],[]⟩)=f1:=by funext x0 aA n8 i9;refine cm ?_;unfold f1;exact aa
theorem T2:∀n,(λx0 aA n8 i9 mA=>gu (hid cQ) n (fY x0 aA n8 i9 mA))=f2 n:=by
 intro n;induction n with
 |zero=>rfl
 |succ n ih=>funext x0 aA n8 i9 mA;rw[f2];rw[<-E1,<-ih];exact aa
theorem H2:(λx0 aA n8 i9 mA=>hid (gu (hid cQ) 100000) (fY x0 aA n8 i9 mA))=f2 100000:=by rw[cM];exact(T2 100000)
theorem run:ca X bd an (cS [6,7]) [6,7] [] [.au .cP t,.int .i64 x,.fn 492 [] []]=f0 t x:=by unfold f0;rw[<-H2];exact aa
def G(p:Int×Bool):Prop:=0<=p.1/\p.1<=t.length/\(p.2=true->p.1<t.length)
theorem loop(h:t.length<=100): ∀(n i j:Nat),j-i<n->i<=j->j<=t.length->kt PX (G t) (f2 n t x (Int.ofNat t.length) (i:Int) (j:Int)):=by
 intro n;induction n with
 |zero=>intro i j h1 h2 h3;omega
 |succ n ih=>
  intro i j h1 h2 h3;show kt PX (G t) (dQ t x (Int.ofNat t.length) (i:Int) (j:Int) f1 (f2 n))
  unfold dQ;by_cases hi:i<j
  ·rw[eh ab,ee,Wq i j ab,c9 (show(i+j)/2<t.length by omega),eZ,eY _ ab]
   exact .fy (λ_=>ih _ _ ab ab ab) (λ_=>ih _ _ ab ab ab)
  ·rw[dF ab,gy]
   show kt PX (G t) (dR t x (Int.ofNat t.length) (i:Int))
   unfold dR;by_cases hn:i<t.length
   ·rw[eh (by simp;omega),ee,c9 hn,eZ]
    exact kt.mk (q:=PX) (_,_) ⟨by show(0:Int)<=i;omega,by show(i:Int)<=_;omega,λ_=>by show(i:Int)<_;omega⟩
   ·rw[dF (by simp;omega),gy]
    exact kt.mk (q:=PX) (_,_) ⟨by show(0:Int)<=i;omega,by show(i:Int)<=_;omega,λh=>by cases h⟩
theorem bE(h:bU t.length 100=true):kt PX (G t) (f0 t x):=by have:=ia h;exact loop t x this 100000 0 t.length ab ab ab
def P:Int×Bool:=Classical.epsilon λa=>f0 t x=some (PX a)/\G t a
theorem OS(h:t.length<=100):G t (P t x):=(bE t x (c_ h)).iJ.2
theorem aw(h:bU t.length 100=true):f0 t x=some (.bP [.int .i64 (P t x).1,.bool (P t x).2],[]):=(bE t x h).iJ.1
def g:ah (AV U El)->Option (Bool×AV U El)
 |[.au .cP t,.int .i64 x,.fn 492 [] []]=>some (bU t.length 100,(.bP [(.int .i64 ((bsf.P t x).1)),(.bool ((bsf.P t x).2))]))
 |_=>none
def c:Ct:=⟨491,cj g,ir call491 func491 λvs v h e=>by
 unfold g at h;split at h;cases h;exact(run _ _).trans (aw _ _ e);cases h⟩
end bsf
namespace wJ
variable(t0:ah cH)(x1 gA:Int)(t:ah cH)(x:Int)
def X:=dp [⟨213,lp.sp,lp.du⟩,Kk.c,qn.c,bsf.c,⟨493,AW.sp,AW.du⟩] 110
def bd:=dG f486
def RR:bn U El:=λst=>cN (cS [4,5,6]) st (ch [4,5,6] [])
def an:gb U:=(.seq none .d (.seq none .d (.seq (some (cS [0,1,7])) .d (.seq none (.region [(11,9),(12,10)]) .d))))
abbrev Y1:=(ah cH)->Int->Int->R
def cX(k1:Y1):R:=aU (bU t.length 100) (ai ((bsf.P t x).2) (aU (dV ((bsf.P t x).1) t.length) (some ((.bP [(.int .i64 ((List.getD t (Int.toNat ((bsf.P t x).1)) cE).ky)),.int .i64 (0:Int),.int .i64 (1:Int)]),[]))) (ai (((bsf.P t x).1)==(0:Int)) (aU (dV ((bsf.P t x).1) t.length) (some ((.bP [(.int .i64 ((List.getD t (Int.toNat ((bsf.P t x).1)) cE).ky)),.int .i64 (0:Int),.int .i64 (1:Int)]),[]))) (ai (((bsf.P t x).1)==(Int.ofNat t.length)) (aU (dV (i64.wrap (((bsf.P t x).1)-(1:Int))) t.length) (some ((.bP [(.int .i64 ((List.getD t (Int.toNat (i64.wrap (((bsf.P t x).1)-(1:Int)))) cE).ky)),.int .i64 (0:Int),.int .i64 (1:Int)]),[]))) (k1 t x ((bsf.P t x).1)))))
def dR:R:=aU (dV (i64.wrap (gA-(1:Int))) t0.length) (aU (dV gA t0.length) (some ((.bP [(.int .i64 (i64.wrap ((List.getD t0 (Int.toNat (i64.wrap (gA-(1:Int)))) cE).ky+((qn.P (i64.wrap ((t0.getD gA.toNat cE).ky-(List.getD t0 (Int.toNat (i64.wrap (gA-(1:Int)))) cE).ky)) (i64.wrap (x1-(List.getD t0 (Int.toNat (i64.wrap (gA-(1:Int)))) cE).kx)) (i64.wrap ((t0.getD gA.toNat cE).kx-(List.getD t0 (Int.toNat (i64.wrap (gA-(1:Int)))) cE).kx))).1)))),(.int .i64 ((Kk.P ((AW.P ((lp.P (i64.wrap ((t0.getD gA.toNat cE).ky-(List.getD t0 (Int.toNat (i64.wrap (gA-(1:Int)))) cE).ky)) (i64.wrap (x1-(List.getD t0 (Int.toNat (i64.wrap (gA-(1:Int)))) cE).kx))).1) ((lp.P ((qn.P (i64.wrap ((t0.getD gA.toNat cE).ky-(List.getD t0 (Int.toNat (i64.wrap (gA-(1:Int)))) cE).ky)) (i64.wrap (x1-(List.getD t0 (Int.toNat (i64.wrap (gA-(1:Int)))) cE).kx)) (i64.wrap ((t0.getD gA.toNat cE).kx-(List.getD t0 (Int.toNat (i64.wrap (gA-(1:Int)))) cE).kx))).1) (i64.wrap ((t0.getD gA.toNat cE).kx-(List.getD t0 (Int.toNat (i64.wrap (gA-(1:Int)))) cE).kx))).1)).1)).1)),(.int .i64 (i64.wrap ((t0.getD gA.toNat cE).kx-(List.getD t0 (Int.toNat (i64.wrap (gA-(1:Int)))) cE).kx)))]),[])))
abbrev ex:=kf X bd an RR
def cQ:=ex [1,1,1] RR nE
def f1:R:=dR t0 x1 gA
def f0:R:=cX t x f1
theorem E1:(λt0 x1 gA=>(hid cQ) ⟨[(0,.au .cP t0),(1,.int .i64 x1),(7,.int .i64 gA)],[]⟩)=f1:=by funext t0 x1 gA;refine cm ?_;unfold f1;exact aa
theorem run:ca X bd an (cS [4,5,6]) [4,5,6] [] [.au .cP t,.int .i64 x]=f0 t x:=by unfold f0;rw[<-E1];exact aa
theorem bE(h:fN t=true):jF DK (f0 t x):=by
 obtain⟨h1,h2⟩:=iT h;obtain⟨g1,g2,g3⟩:=bsf.OS t x h2;show jF DK (cX t x f1)
 unfold cX;generalize bsf.P t x=p at g1 g2 g3;obtain⟨k,b⟩:=p;obtain⟨k,rfl⟩:=bC g1;simp only at g2 g3⊢;refine .aU (c_ h2) (.fy (λhb=>.aU (c9 (by have:=g3 hb;omega)) (DY _ _ _)) λ_=>.fy (λhk=>?_) λhk=>.fy (λhn=>?_) λhn=>?_)
 ·have:k=0:=by simpa using hk
  exact .aU (c9 ab) (DY _ _ _)
 ·have:k=t.length:=hO (by simpa using hn)
  subst this;rw[vm _ ab ab]
  exact .aU (c9 ab) (DY _ _ _)
 ·have:k≠0:=by simpa using hk
  have:k≠t.length:=λe=>by subst e;simp at hn
  show jF DK (dR t x (k:Int))
  unfold dR;rw[vm k ab ab]
  exact .aU (c9 ab) (.aU (c9 ab) (DY _ _ _))
def P:Int×Int×Int:=Classical.epsilon λa=>f0 t x=some (DK a)
theorem aw(h:fN t=true):f0 t x=some (.bP [.int .i64 (P t x).1,.int .i64 (P t x).2.1,.int .i64 (P t x).2.2],[]):=(bE t x h).iJ
def c:Ct:=⟨486,cj (A2 (bL .cP) aI λt x=>(fN t,(.bP [(.int .i64 ((wJ.P t x).1)),(.int .i64 ((wJ.P t x).2.1)),(.int .i64 ((wJ.P t x).2.2))]))),ir call486 func486 (a2 λt x e_=>(run t x).trans (aw t x e_))⟩
end wJ
theorem Bi{b:Bool}(h:(!b)=false):b=true:=by simpa using h
namespace mj
variable(t:ah cH)(x:Int)
def X:=dp [wI.c,wJ.c] 20
def f0:R:=ai (!(fN t)) (some ((.bP [.int .i64 (0:Int),.int .i64 (1:Int)]),[])) (aU (fN t) (some ((.bP [(.int .i64 ((wJ.P t x).1)),.int .i64 (0:Int)]),[])))
theorem run:ca X (dG f475) .d (cS [4,5]) [4,5] [] [.au .cP t,.int .i64 x]=f0 t x:=aa
theorem bE:jF kX (f0 t x):=.fy (λ_=>j3 _ _) λh=>.aU (Bi h) (j3 _ _)
def P:Int×Int:=Classical.epsilon λa=>f0 t x=some (kX a)
theorem aw:f0 t x=some (.bP [.int .i64 (P t x).1,.int .i64 (P t x).2],[]):=(bE t x).iJ
def c:Ct:=⟨475,dU (A2 (bL .cP) aI λt x=>(.bP [(.int .i64 ((mj.P t x).1)),(.int .i64 ((mj.P t x).2))])),oS call475 func475 (a2 λt x=>(run t x).trans (aw t x))⟩
end mj
namespace YA
variable(x:cH)(y:Int)
def X:=dp [] 8
def f0:R:=aq (bz y x.ky)
theorem run:ca X (dG f304) .d (cS [3]) [3] [] [eA .cP x,.pcs [.int .i64 y] 0]=f0 x y:=aa
theorem aw:f0 x y=aq (mM y x):=rfl
def g:ah (AV U El)->Option (AV U El)
 |[.agg [.int .i64 VZ,.int .i64 VY],.pcs [.int .i64 y] 0]=>some (.bool ((mM y) (⟨VZ,VY⟩:cH)))
 |_=>none
def c:Ct:=⟨304,dU g,oS call304 func304 λvs v h=>by
 unfold g at h;split at h;cases h;exact(run ⟨_,_⟩ _).trans (aw ⟨_,_⟩ _);cases h⟩
end YA
namespace Sk
def X:=dp [YA.c] 19
def g:ah (AV U El)->Option (Bool×AV U El)
 |[.au .cP l,.fn 304 [] [.pcs [.int .i64 y] 0]]=>some (bU l.length 90000,(.int .i64 (dM (mM y) 0 l)))
 |_=>none
def c:Ct:=⟨247,cj g,ir call247 func247 λvs v h e=>by
 unfold g at h;split at h;cases h;exact qt (X:=X) e aa (λ_ _ _=>aa) aa;cases h⟩
end Sk
namespace BD
variable(t:ah cH)(y:Int)
def X:=dp [wI.c,Sk.c,qn.c] 63
def an:gb U:=(.seq none .d (.seq none .d (.seq none .d (.seq none .d (.seq none (.region [(11,7),(12,8)]) .d)))))
def f0:R:=ai (!(fN t)) (some ((.bP [.int .i64 (0:Int),.int .i64 (1:Int)]),[])) (aU (bU t.length 90000) (ai ((dM (mM y) 0 t)==(-1:Int)) (aU (dV (i64.wrap ((Int.ofNat t.length)-(1:Int))) t.length) (some ((.bP [(.int .i64 ((List.getD t (Int.toNat (i64.wrap ((Int.ofNat t.length)-(1:Int)))) cE).kx)),.int .i64 (0:Int)]),[]))) (ai ((dM (mM y) 0 t)==(0:Int)) (some ((.bP [.int .i64 (0:Int),.int .i64 (12:Int)]),[])) (aU (dV (i64.wrap ((dM (mM y) 0 t)-(1:Int))) t.length) (aU (dV (dM (mM y) 0 t) t.length) (some ((.bP [(.int .i64 (i64.wrap ((List.getD t (Int.toNat (i64.wrap ((dM (mM y) 0 t)-(1:Int)))) cE).kx+((qn.P (i64.wrap (y-(List.getD t (Int.toNat (i64.wrap ((dM (mM y) 0 t)-(1:Int)))) cE).ky)) (i64.wrap ((List.getD t (Int.toNat (dM (mM y) 0 t)) cE).kx-(List.getD t (Int.toNat (i64.wrap ((dM (mM y) 0 t)-(1:Int)))) cE).kx)) (i64.wrap ((List.getD t (Int.toNat (dM (mM y) 0 t)) cE).ky-(List.getD t (Int.toNat (i64.wrap ((dM (mM y) 0 t)-(1:Int)))) cE).ky))).1)))),(.int .i64 ((qn.P (i64.wrap (y-(List.getD t (Int.toNat (i64.wrap ((dM (mM y) 0 t)-(1:Int)))) cE).ky)) (i64.wrap ((List.getD t (Int.toNat (dM (mM y) 0 t)) cE).kx-(List.getD t (Int.toNat (i64.wrap ((dM (mM y) 0 t)-(1:Int)))) cE).kx)) (i64.wrap ((List.getD t (Int.toNat (dM (mM y) 0 t)) cE).ky-(List.getD t (Int.toNat (i64.wrap ((dM (mM y) 0 t)-(1:Int)))) cE).ky))).2.2))]),[])))))))
theorem run:ca X (dG f231) an (cS [4,5]) [4,5] [] [.au .cP t,.int .i64 y]=f0 t y:=aa
theorem bE:jF kX (f0 t y):=by
 refine .fy (λ_=>j3 _ _) λh=>?_
 obtain⟨h1,h2⟩:=iT (Bi h)
 have hr:=qh (mM y) t 0;generalize dM (mM y) 0 t=k at hr;refine .aU (c_ ab) (.fy (λhk=>?_) λhk=>.fy (λ_=>j3 _ _) λh0=>?_)
 ·rw[show i64.wrap (Int.ofNat t.length-1)=((t.length-1:Nat):Int)from vm t.length ab ab]
  exact .aU (c9 ab) (j3 _ _)
 ·have hk:k≠ -1:=by simpa using hk
  have h0:k≠0:=by simpa using h0
  rcases hr with hr|⟨a,b⟩
  ·exact absurd hr hk
  obtain⟨k,rfl⟩:=bC (show 0<=k by omega)
  rw[vm k ab ab]
  exact .aU (c9 ab) (.aU (c9 ab) (j3 _ _))
def P:Int×Int:=Classical.epsilon λa=>f0 t y=some (kX a)
theorem aw:f0 t y=some (.bP [.int .i64 (P t y).1,.int .i64 (P t y).2],[]):=(bE t y).iJ
def c:Ct:=⟨231,dU (A2 (bL .cP) aI λt y=>(.bP [(.int .i64 ((BD.P t y).1)),(.int .i64 ((BD.P t y).2))])),oS call231 func231 (a2 λt y=>(run t y).trans (aw t y))⟩
end BD
def Df(x:Cw):Bool:=uB x.wm&&uB x.yE
instance:Inhabited Cw:=⟨⟨0,0⟩⟩
def O_(a:Cw):Fin U El:=(.agg [.int .u64 a.wm,.int .u64 a.yE],[])
theorem SY{x y:Int}(hx:uB x=true)(hy:uB y=true):kt O_ (λa=>Df a=true) (some (.agg [.int .u64 x,.int .u64 y],[])):=kt.mk (⟨x,y⟩:Cw) (eN hx hy)
namespace kL
variable(a b:Int)
def X:=dp [⟨191,oC.sp,oC.du⟩] 18
def fM:Norm U:=⟨[],[18],[],[],[],[],[]⟩
def f0:R:=aU (uB (u64.wrap a)&&uB (u64.wrap b)) (some ((.agg [(.int .u64 (mH (u64.wrap a) (u64.wrap b))),(.int .u64 (oW (u64.wrap a) (u64.wrap b)))]),[]))
theorem run:gH X (dG f284) .d fM [(4,364)] [18] [] [.int .i64 a,.int .i64 b]=f0 a b:=aa
theorem bE:kt O_ (λa=>Df a=true) (f0 a b):=.aU (eN (eO _) (eO _)) (SY (vr (eO _) (eO _)) (ph _ _))
def P:Cw:=Classical.epsilon λx=>f0 a b=some (O_ x)/\Df x=true
theorem vd:Df (P a b)=true:=(bE a b).iJ.2
theorem aw:f0 a b=some (.agg [.int .u64 (P a b).wm,.int .u64 (P a b).yE],[]):=(bE a b).iJ.1
theorem ok:bp prog X:=fV lq (ss _) pD
theorem jE:kZ prog X:=λg sp h=>by cases h
theorem spec:cV prog E 284 [(.int .i64 a),(.int .i64 b)] (.agg [(.int .u64 (((kL.P a b)).wm)),(.int .u64 (((kL.P a b)).yE))]) []:=cR ok jE call284 func284 aa aa aa (by show 2<=18;decide) af (by rfl) ((run a b).trans (aw a b))
def sp:Sp U El:=λargs k=>match args with
 |[.int .i64 a,.int .i64 b]=>k (.agg [(.int .u64 ((kL.P a b).wm)),(.int .u64 ((kL.P a b).yE))]) []
 |_=>none
theorem du:gQ prog E 284 sp where
 pe:=λvs=>by
  unfold sp;split
  ·exact⟨some (_,_),λ_=>rfl⟩
  ·exact⟨none,λ_=>rfl⟩
 ok:=λvs k r h=>by
  unfold sp at h;split at h
  ·exact⟨_,_,.inl (spec _ _),h⟩
  ·cases h
end kL
namespace qC
variable(x:Cw)(n:Int)
def X:=dp [⟨191,oC.sp,oC.du⟩] 24
def fM:Norm U:=⟨[],[24],[],[],[],[],[]⟩
def f0:R:=aU (uB x.yE&&uB (u64.wrap n)) (some ((.agg [(.int .u64 (u64.wrap ((mH x.yE (u64.wrap n))+(u64.wrap (x.wm*(u64.wrap n)))))),(.int .u64 (oW x.yE (u64.wrap n)))]),[]))
theorem run:gH X (dG f287) .d fM [(4,364)] [24] [] [.agg [.int .u64 x.wm,.int .u64 x.yE],.int .i64 n]=f0 x n:=aa
theorem bE(h:Df x=true):kt O_ (λa=>Df a=true) (f0 x n):=.aU (eN (aZ.1 h).2 (eO _)) (SY (eO _) (ph _ _))
def P:Cw:=Classical.epsilon λy=>f0 x n=some (O_ y)/\Df y=true
theorem vd{x:Cw}(n:Int)(h:Df x=true):Df (P x n)=true:=(bE x n h).iJ.2
theorem aw(h:Df x=true):f0 x n=some (.agg [.int .u64 (P x n).wm,.int .u64 (P x n).yE],[]):=(bE x n h).iJ.1
theorem ok:bp prog X:=fV lq (ss _) pD
theorem jE:kZ prog X:=λg sp h=>by cases h
theorem spec(h:(Df x)=true):cV prog E 287 [(.agg [(.int .u64 x.wm),(.int .u64 x.yE)]),(.int .i64 n)] (.agg [(.int .u64 (((qC.P x n)).wm)),(.int .u64 (((qC.P x n)).yE))]) []:=cR ok jE call287 func287 aa aa aa (by show 2<=24;decide) af (by rfl) ((run x n).trans (aw x n h))
def sp:Sp U El:=λargs k=>match args with
 |[.agg [.int .u64 yM,.int .u64 yL],.int .i64 n]=>aU (Df (⟨yM,yL⟩:Cw)) (k (.agg [(.int .u64 (((qC.P (⟨yM,yL⟩:Cw) n)).wm)),(.int .u64 (((qC.P (⟨yM,yL⟩:Cw) n)).yE))]) [])
 |_=>none
theorem du:gQ prog E 287 sp where
 pe:=λvs=>by
  unfold sp;split
  ·exact kK _ _ _
  ·exact⟨none,λ_=>rfl⟩
 ok:=λvs k r h=>by
  unfold sp at h;split at h
  ·obtain⟨h1,h2⟩:=aQ h;exact⟨_,_,.inl (spec ⟨_,_⟩ _ h1),h2⟩
  ·cases h
end qC
namespace cover
variable(x:Cw)(n:Int)
def X:=dp [pF.c] 31
def fM:Norm U:=⟨[],[31],[],[],[],[],[]⟩
def f0:R:=aU ((u64.wrap n) !=0) (aU ((u64.wrap n) !=0) (aU ((uB (Int.tmod x.wm (u64.wrap n))&&(uB x.yE&&(uB (u64.wrap n)&&bz (Int.tmod x.wm (u64.wrap n)) (u64.wrap n))))) (some ((.agg [(.int .u64 (u64.wrap (Int.tdiv x.wm (u64.wrap n)))),(.int .u64 ((pF.P (Int.tmod x.wm (u64.wrap n)) x.yE (u64.wrap n)).1))]),[]))))
theorem run:gH X (dG f288) .d fM [(4,364)] [31] [] [.agg [.int .u64 x.wm,.int .u64 x.yE],.int .i64 n]=f0 x n:=aa
theorem bE(h:(Df x&&(bg 1 n&&bg n 9223372036854775807))=true):jF O_ (f0 x n):=by
 simp only[aj]at h;obtain⟨h0,h1,h2⟩:=h;obtain⟨x1,x2⟩:=aZ.1 h0;obtain⟨x3,x4⟩:=gP.1 x1;have h1:=ja h1;have h2:=ja h2;unfold f0;rw[pT (x:=n) ab ab]
 have hm:uB (Int.tmod x.wm n)=true/\Int.tmod x.wm n<n:=by
  rw[Int.tmod_eq_emod_of_nonneg x3]
  have:=Int.emod_nonneg x.wm (show n≠0 by omega)
  have:=Int.emod_lt_of_pos x.wm (show 0<n by omega)
  exact⟨gP.2 ⟨ab,ab⟩,ab⟩
 exact .aU (Pa ab) (.aU (Pa ab) (.aU (eN hm.1 (eN x2 (eN (gP.2 ⟨ab,ab⟩) (eh hm.2)))) (jF.mk (q:=O_) ⟨_,_⟩)))
def P:Cw:=Classical.epsilon λy=>f0 x n=some (O_ y)
theorem aw(h:(Df x&&(bg 1 n&&bg n 9223372036854775807))=true):f0 x n=some (.agg [.int .u64 (P x n).wm,.int .u64 (P x n).yE],[]):=(bE x n h).iJ
theorem ok:bp prog X:=fV lq (ss _) pD
theorem jE:kZ prog X:=λg sp h=>by cases h
theorem spec(h:((Df x&&(bg 1 n&&bg n 9223372036854775807)))=true):cV prog E 288 [(.agg [(.int .u64 x.wm),(.int .u64 x.yE)]),(.int .i64 n)] (.agg [(.int .u64 (((cover.P x n)).wm)),(.int .u64 (((cover.P x n)).yE))]) []:=cR ok jE call288 func288 aa aa aa (by show 2<=31;decide) af (by rfl) ((run x n).trans (aw x n h))
def sp:Sp U El:=λargs k=>match args with
 |[.agg [.int .u64 yM,.int .u64 yL],.int .i64 n]=>aU ((Df (⟨yM,yL⟩:Cw)&&(bg 1 n&&bg n 9223372036854775807))) (k (.agg [(.int .u64 (((cover.P (⟨yM,yL⟩:Cw) n)).wm)),(.int .u64 (((cover.P (⟨yM,yL⟩:Cw) n)).yE))]) [])
 |_=>none
theorem du:gQ prog E 288 sp where
 pe:=λvs=>by
  unfold sp;split
  ·exact kK _ _ _
  ·exact⟨none,λ_=>rfl⟩
 ok:=λvs k r h=>by
  unfold sp at h;split at h
  ·obtain⟨h1,h2⟩:=aQ h;exact⟨_,_,.inl (spec ⟨_,_⟩ _ h1),h2⟩
  ·cases h
end cover
namespace Ip
variable(gW:bn U El)(r3:Int)(x:Cw)
def X:=dp [⟨191,oC.sp,oC.du⟩] 42
def bd:=dG f285
def RR:bn U El:=λst=>cN (cS [2]) st (ch [2] [])
def eE:Norm U:=cS [3]
def dI:Norm U:=⟨[],[1,3,4],[1],[],[],[],[]⟩
def an:gb U:=(.seq none .d (.seq none .d (.seq (some eE) (.seq none .d (.block (.loop dI (.seq none .d (.seq (some dI) .d .d))))) .d)))
abbrev Y1:=Int->R
abbrev Y2:=Int->Int->Cw->R
abbrev Y3:=Int->Int->Cw->R
def fY(bA:Int)(b1:Cw):St U El:=⟨[(1,.ptr 1 0),(3,.int .u64 r3),(4,.int .u64 bA)],[(1,.box 0 [.int .u64 b1.wm,.int .u64 b1.yE])]⟩
def cX(k2:Y2):R:=k2 (0:Int) (4611686018427387904:Int) x
def dR:R:=gl (i64.wrap r3)
def dQ(bA:Int)(b1:Cw)(k1:Y1)(k3:Y3):R:=ai (bz (0:Int) bA) (aU (uB (ub .u64 r3 bA)&&uB (ub .u64 r3 bA)) (ai (bz (mH (ub .u64 r3 bA) (ub .u64 r3 bA)) b1.wm) (k3 (ub .u64 r3 bA) bA b1) (ai ((mH (ub .u64 r3 bA) (ub .u64 r3 bA))==b1.wm) (ai (bg (oW (ub .u64 r3 bA) (ub .u64 r3 bA)) b1.yE) (k3 (ub .u64 r3 bA) bA b1) (k3 r3 bA b1)) (k3 r3 bA b1)))) (k1 r3)
def gf(bA:Int)(b1:Cw)(k2:Y2):R:=k2 r3 (Int.fdiv bA (2^min (Int.toNat (1:Int)) (IntKind.bits .u64))) b1
abbrev ex:=kf X bd an RR
abbrev it:=nO X bd an RR
def gu:=it dI [1,1,0,1,0,0] (cu 0 (bG eE gW) nE)
def cQ:=ex [1,1,1] RR nE
def mz(iP:bn U El):=ex [1,1,0,1,0,0,1,1] (bG dI iP) (cu 0 (bG eE gW) nE)
def f1:R:=dR r3
def f3(k2:Y2)(r3 bA:Int)(b1:Cw):R:=gf r3 bA b1 k2
def f2:Nat->Y2
 |0=>λ_ _ _=>none
 |n+1=>λr3 bA b1=>dQ r3 bA b1 f1 (f3 (f2 n))
def f0:R:=cX x (f2 100000)
theorem E1:(λr3=>(hid cQ) ⟨[(3,.int .u64 r3)],[]⟩)=f1:=by funext r3;refine cm ?_;unfold f1;exact aa
theorem E3(jW:bn U El)(k2:Y2)(h2:(λr3 bA b1=>jW (fY r3 bA b1))=k2):(λr3 bA b1=>(hid (mz (hid cQ) jW)) ⟨[(1,.ptr 1 0),(3,.int .u64 r3),(4,.int .u64 bA)],[(1,.box 0 [.int .u64 b1.wm,.int .u64 b1.yE])]⟩)=f3 k2:=by subst h2;funext r3 bA b1;refine cm ?_;unfold f3;exact aa
theorem T2:∀n,(λr3 bA b1=>gu (hid cQ) n (fY r3 bA b1))=f2 n:=by
 intro n;induction n with
 |zero=>rfl
 |succ n ih=>funext r3 bA b1;rw[f2];rw[<-E1,<-E3 (gu (hid cQ) n) _ ih];exact aa
theorem H2:(λr3 bA b1=>hid (gu (hid cQ) 100000) (fY r3 bA b1))=f2 100000:=by rw[cM];exact(T2 100000)
theorem run:ca X bd an (cS [2]) [2] [] [eA .cw x]=f0 x:=by unfold f0;rw[<-H2];exact aa
theorem loop:∀(n m:Nat) (r bit:Int),uB r=true->0<=bit->bit<2^n->n<m->jF qI (f2 m r bit x):=by
 intro n;induction n with
 |zero=>
  intro m r bit h0 h1 h2 h3;obtain⟨m,rfl⟩:=eI (by omega:m≠0)
  show jF qI (dQ r bit x f1 (f3 (f2 m)))
  unfold dQ;rw[dF ab,gy]
  exact K7 _
 |succ n ih=>
  intro m r bit h0 h1 h2 h3;obtain⟨m,rfl⟩:=eI (by omega:m≠0)
  have e:∀r',uB r'=true->jF qI (f3 (f2 m) r' bit x):=λr' h'=>by
   show jF qI (f2 m r' (Int.fdiv bit 2) x)
   rw[fR _ af]
   rw[Int.pow_succ]at h2;exact ih m _ _ h' ab ab ab
  show jF qI (dQ r bit x f1 (f3 (f2 m)))
  exact .fy (λ_=>.aU (eN (eO _) (eO _)) (.fy (λ_=>e _ (eO _)) λ_=>.fy (λ_=>.fy (λ_=>e _ (eO _)) λ_=>e _ h0) λ_=>e _ h0)) λ_=>K7 _
def P:Int:=Classical.epsilon λy=>f0 x=some (qI y)
theorem aw:f0 x=gl (P x):=Is.iJ (show jF qI (f0 x)from loop x 63 100000 0 4611686018427387904 (gP.2 ⟨af,af⟩) af af af)
def c:Ct:=⟨285,dU (A1 (aR .cw) λx=>(.int .i64 (Ip.P x))),oS call285 func285 (a1 λx=>(run x).trans (aw x))⟩
end Ip
namespace oH
variable(s:cK)(depth lE length d f l:Int)
def X:=dp [⟨284,kL.sp,kL.du⟩,Ip.c,⟨287,qC.sp,qC.du⟩,⟨288,cover.sp,cover.du⟩,mj.c] 30
def f0:R:=ai (((mj.P s.sc depth).2) !=(0:Int)) (some ((.bP [.int .i64 (0:Int),(.int .i64 ((mj.P s.sc depth).2))]),[])) (aU (Df ((kL.P ((mj.P s.sc depth).1) ((mj.P s.sc depth).1)))) (aU ((Df ((qC.P ((kL.P ((mj.P s.sc depth).1) ((mj.P s.sc depth).1))) lE))&&(bg 1 length&&bg length 9223372036854775807))) (some ((.bP [(.int .i64 ((Ip.P ((cover.P ((qC.P ((kL.P ((mj.P s.sc depth).1) ((mj.P s.sc depth).1))) lE)) length))))),.int .i64 (0:Int)]),[]))))
theorem run:ca X (dG f469) .d (cS [8,9]) [8,9] [] [eA .dj s,.int .i64 depth,.int .i64 lE,.int .i64 length]=f0 s depth lE length:=aa
theorem bE(h:(bg 1 l&&bg l 9223372036854775807)=true):jF kX (f0 s d f l):=.fy (λ_=>j3 _ _) λ_=>.aU (kL.vd _ _) (.aU (eN (qC.vd _ (kL.vd _ _)) h) (j3 _ _))
def P:Int×Int:=Classical.epsilon λa=>f0 s d f l=some (kX a)
theorem aw(h:(bg 1 l&&bg l 9223372036854775807)=true):f0 s d f l=some (.bP [.int .i64 (P s d f l).1,.int .i64 (P s d f l).2],[]):=(bE s d f l h).iJ
def c:Ct:=⟨469,cj (A4 (aR .dj) aI aI aI λs depth lE length=>(bg 1 length&&bg length 9223372036854775807,(.bP [(.int .i64 ((oH.P s depth lE length).1)),(.int .i64 ((oH.P s depth lE length).2))]))),ir call469 func469 (a4 λs depth lE length e_=>(run s depth lE length).trans (aw s depth lE length e_))⟩
end oH
namespace Mm
variable(lE length:Int)
def X:=dp [] 19
def f0:R:=ai (bg (0:Int) lE) (ai (bg lE (4194304:Int)) (ai (bg (1:Int) length) (aq (bg length (16777216:Int))) (aq false)) (aq false)) (aq false)
theorem run:ca X (dG f468) .d (cS [4]) [4] [] [.int .i64 lE,.int .i64 length]=f0 lE length:=aa
theorem aw(a b:Int):f0 a b=aq (yT a b):=by
 unfold f0 yT;cases bg 0 a
 ·rfl
 ·cases bg a 4194304
  ·rfl
  ·cases bg 1 b<;>rfl
def c:Ct:=⟨468,dU (A2 aI aI λlE length=>(.bool (yT lE length))),oS call468 func468 (a2 λlE length=>(run lE length).trans (aw lE length))⟩
end Mm
namespace mK
variable(dA fA cA:Int)(hA:ah UInt8)(iA jA:Int)(kA lA:ah cH)(s:cK)(depth lE length d f l:Int)
def X:=dp [CV.c,Mm.c,oH.c] 47
def bd:=dG f449
def RR:bn U El:=λst=>cN (cS [8,9]) st (ch [8,9] [])
def an:gb U:=(.seq none .d (.seq (some (⟨[],[1,2,3,4],[4],[],[],[],[(4,3,.cP),(4,4,.cP)]⟩)) .d .d))
abbrev Y1:=Int->Int->Int->(ah UInt8)->Int->Int->(ah cH)->(ah cH)->R
def cX(k1:Y1):R:=ai (!(pV s)) (some ((.bP [.int .i64 (0:Int),.int .i64 (1:Int)]),[])) (ai (bz depth (0:Int)) (some ((.bP [.int .i64 (0:Int),.int .i64 (2:Int)]),[])) (ai (bz s.sh depth) (some ((.bP [.int .i64 (0:Int),.int .i64 (2:Int)]),[])) (ai (!(yT lE length)) (some ((.bP [.int .i64 (0:Int),.int .i64 (2:Int)]),[])) (k1 depth lE length s.sn s.sh s.sp s.sa s.sc))))
def dR:R:=aU (bg 1 cA&&bg cA 9223372036854775807) (ai (((oH.P (⟨hA,iA,jA,kA,lA⟩:cK) dA fA cA).2) !=(0:Int)) (some ((.bP [.int .i64 (0:Int),(.int .i64 ((oH.P (⟨hA,iA,jA,kA,lA⟩:cK) dA fA cA).2))]),[])) (ai (bz (1099511627776:Int) ((oH.P (⟨hA,iA,jA,kA,lA⟩:cK) dA fA cA).1)) (some ((.bP [.int .i64 (0:Int),.int .i64 (5:Int)]),[])) (some ((.bP [(.int .i64 ((oH.P (⟨hA,iA,jA,kA,lA⟩:cK) dA fA cA).1)),.int .i64 (0:Int)]),[]))))
abbrev ex:=kf X bd an RR
def cQ:=ex [1,1] RR nE
def f1:R:=dR dA fA cA hA iA jA kA lA
def f0:R:=cX s depth lE length f1
theorem E1:(λdA fA cA hA iA jA kA lA=>(hid cQ) ⟨[(1,.int .i64 dA),(2,.int .i64 fA),(3,.int .i64 cA),(4,.ptr 4 0)],[(4,.box 0 [.str hA,.int .i64 iA,.int .i64 jA,.au .cP kA,.au .cP lA])]⟩)=f1:=by funext dA fA cA hA iA jA kA lA;refine cm ?_;unfold f1;exact aa
theorem run:ca X bd an (cS [8,9]) [8,9] [] [eA .dj s,.int .i64 depth,.int .i64 lE,.int .i64 length]=f0 s depth lE length:=by unfold f0;rw[<-E1];exact aa
theorem bE:jF kX (f0 s d f l):=by
 show jF kX (cX s d f l f1)
 refine .fy (λ_=>j3 _ _) λ_=>.fy (λ_=>j3 _ _) λ_=>.fy (λ_=>j3 _ _) λ_=>.fy (λ_=>j3 _ _) λh=>?_
 have h:=Bi h;simp only[yT,aj]at h;have h2:=ja h.2.2.2;refine .aU (eN h.2.2.1 (iI ab)) (.fy (λ_=>j3 _ _) λ_=>.fy (λ_=>j3 _ _) λ_=>j3 _ _)
def P:Int×Int:=Classical.epsilon λa=>f0 s d f l=some (kX a)
theorem aw:f0 s d f l=some (.bP [.int .i64 (P s d f l).1,.int .i64 (P s d f l).2],[]):=(bE s d f l).iJ
def c:Ct:=⟨449,dU (A4 (aR .dj) aI aI aI λs depth lE length=>(.bP [(.int .i64 ((mK.P s depth lE length).1)),(.int .i64 ((mK.P s depth lE length).2))])),oS call449 func449 (a4 λs depth lE length=>(run s depth lE length).trans (aw s depth lE length))⟩
end mK
namespace ZR
variable(x:cK)(s:ah UInt8)
def X:=dp [] 8
def f0:R:=aq (x.sn==s)
theorem run:ca X (dG f271) .d (cS [3]) [3] [] [eA .dj x,.pcs [.str s] 0]=f0 x s:=aa
theorem aw:f0 x s=aq (gx s x):=rfl
def g:ah (AV U El)->Option (AV U El)
 |[.agg [.str J7,.int .i64 J8,.int .i64 J6,.au .cP J_,.au .cP J9],.pcs [.str s] 0]=>some (.bool ((gx s) (⟨J7,J8,J6,J_,J9⟩:cK)))
 |_=>none
def c:Ct:=⟨271,dU g,oS call271 func271 λvs v h=>by
 unfold g at h;split at h;cases h;exact(run ⟨_,_,_,_,_⟩ _).trans (aw ⟨_,_,_,_,_⟩ _);cases h⟩
end ZR
namespace U1
def X:=dp [ZR.c] 19
def g:ah (AV U El)->Option (Bool×AV U El)
 |[.au .dj l,.fn 271 [] [.pcs [.str s] 0]]=>some (bU l.length 90000,(.int .i64 (dM (gx s) 0 l)))
 |_=>none
def c:Ct:=⟨145,cj g,ir call145 func145 λvs v h e=>by
 unfold g at h;split at h;cases h;exact qt (X:=X) e aa (λ_ _ _=>aa) aa;cases h⟩
end U1
namespace wq
variable(l:ah cK)(s:ah UInt8)
def X:=dp [xi.c,U1.c] 16
def f0:R:=ai (!(qG l)) (some ((.bP [.int .i64 (0:Int),.int .i64 (1:Int)]),[])) (aU (bU l.length 90000) (ai (bg (0:Int) (dM (gx s) 0 l)) (some ((.bP [(.int .i64 (dM (gx s) 0 l)),.int .i64 (0:Int)]),[])) (some ((.bP [.int .i64 (0:Int),.int .i64 (9:Int)]),[]))))
theorem run:ca X (dG f210) .d (cS [4,5]) [4,5] [] [.au .dj l,.str s]=f0 l s:=aa
theorem bE(h:bU l.length 90000=true):jF kX (f0 l s):=.fy (λ_=>j3 _ _) λ_=>.aU h (.fy (λ_=>j3 _ _) λ_=>j3 _ _)
def P:Int×Int:=Classical.epsilon λa=>f0 l s=some (kX a)
theorem aw(h:bU l.length 90000=true):f0 l s=some (.bP [.int .i64 (P l s).1,.int .i64 (P l s).2],[]):=(bE l s h).iJ
def c:Ct:=⟨210,cj (A2 (bL .dj) aS λl s=>(bU l.length 90000,(.bP [(.int .i64 ((wq.P l s).1)),(.int .i64 ((wq.P l s).2))]))),ir call210 func210 (a2 λl s e_=>(run l s).trans (aw l s e_))⟩
end wq
def AK(x:Ow):Bool:=uB x.vN&&uB x.yp
instance:Inhabited Ow:=⟨⟨0,0⟩⟩
def O9(a:Ow):Fin U El:=(.agg [.int .u64 a.vN,.int .u64 a.yp],[])
theorem SX{x y:Int}(hx:uB x=true)(hy:uB y=true):kt O9 (λa=>AK a=true) (some (.agg [.int .u64 x,.int .u64 y],[])):=kt.mk (⟨x,y⟩:Ow) (eN hx hy)
namespace fS
variable(a b:Int)
def X:=dp [⟨191,oC.sp,oC.du⟩] 18
def fM:Norm U:=⟨[],[18],[],[],[],[],[]⟩
def f0:R:=aU (uB (u64.wrap a)&&uB (u64.wrap b)) (some ((.agg [(.int .u64 (mH (u64.wrap a) (u64.wrap b))),(.int .u64 (oW (u64.wrap a) (u64.wrap b)))]),[]))
theorem run:gH X (dG f470) .d fM [(4,523)] [18] [] [.int .i64 a,.int .i64 b]=f0 a b:=aa
theorem bE:kt O9 (λa=>AK a=true) (f0 a b):=.aU (eN (eO _) (eO _)) (SX (vr (eO _) (eO _)) (ph _ _))
def P:Ow:=Classical.epsilon λx=>f0 a b=some (O9 x)/\AK x=true
theorem vd:AK (P a b)=true:=(bE a b).iJ.2
theorem aw:f0 a b=some (.agg [.int .u64 (P a b).vN,.int .u64 (P a b).yp],[]):=(bE a b).iJ.1
theorem ok:bp prog X:=fV lq (ss _) pD
theorem jE:kZ prog X:=λg sp h=>by cases h
theorem spec:cV prog E 470 [(.int .i64 a),(.int .i64 b)] (.agg [(.int .u64 (((fS.P a b)).vN)),(.int .u64 (((fS.P a b)).yp))]) []:=cR ok jE call470 func470 aa aa aa (by show 2<=18;decide) af (by rfl) ((run a b).trans (aw a b))
def sp:Sp U El:=λargs k=>match args with
 |[.int .i64 a,.int .i64 b]=>k (.agg [(.int .u64 ((fS.P a b).vN)),(.int .u64 ((fS.P a b).yp))]) []
 |_=>none
theorem du:gQ prog E 470 sp where
 pe:=λvs=>by
  unfold sp;split
  ·exact⟨some (_,_),λ_=>rfl⟩
  ·exact⟨none,λ_=>rfl⟩
 ok:=λvs k r h=>by
  unfold sp at h;split at h
  ·exact⟨_,_,.inl (spec _ _),h⟩
  ·cases h
end fS
namespace iq
variable(x:Ow)(n:Int)
def X:=dp [⟨191,oC.sp,oC.du⟩] 24
def fM:Norm U:=⟨[],[24],[],[],[],[],[]⟩
def f0:R:=aU (uB x.yp&&uB (u64.wrap n)) (some ((.agg [(.int .u64 (u64.wrap ((mH x.yp (u64.wrap n))+(u64.wrap (x.vN*(u64.wrap n)))))),(.int .u64 (oW x.yp (u64.wrap n)))]),[]))
theorem run:gH X (dG f471) .d fM [(4,523)] [24] [] [.agg [.int .u64 x.vN,.int .u64 x.yp],.int .i64 n]=f0 x n:=aa
theorem bE(h:AK x=true):kt O9 (λa=>AK a=true) (f0 x n):=.aU (eN (aZ.1 h).2 (eO _)) (SX (eO _) (ph _ _))
def P:Ow:=Classical.epsilon λy=>f0 x n=some (O9 y)/\AK y=true
theorem vd{x:Ow}(n:Int)(h:AK x=true):AK (P x n)=true:=(bE x n h).iJ.2
theorem aw(h:AK x=true):f0 x n=some (.agg [.int .u64 (P x n).vN,.int .u64 (P x n).yp],[]):=(bE x n h).iJ.1
theorem ok:bp prog X:=fV lq (ss _) pD
theorem jE:kZ prog X:=λg sp h=>by cases h
theorem spec(h:(AK x)=true):cV prog E 471 [(.agg [(.int .u64 x.vN),(.int .u64 x.yp)]),(.int .i64 n)] (.agg [(.int .u64 (((iq.P x n)).vN)),(.int .u64 (((iq.P x n)).yp))]) []:=cR ok jE call471 func471 aa aa aa (by show 2<=24;decide) af (by rfl) ((run x n).trans (aw x n h))
def sp:Sp U El:=λargs k=>match args with
 |[.agg [.int .u64 yK,.int .u64 yJ],.int .i64 n]=>aU (AK (⟨yK,yJ⟩:Ow)) (k (.agg [(.int .u64 (((iq.P (⟨yK,yJ⟩:Ow) n)).vN)),(.int .u64 (((iq.P (⟨yK,yJ⟩:Ow) n)).yp))]) [])
 |_=>none
theorem du:gQ prog E 471 sp where
 pe:=λvs=>by
  unfold sp;split
  ·exact kK _ _ _
  ·exact⟨none,λ_=>rfl⟩
 ok:=λvs k r h=>by
  unfold sp at h;split at h
  ·obtain⟨h1,h2⟩:=aQ h;exact⟨_,_,.inl (spec ⟨_,_⟩ _ h1),h2⟩
  ·cases h
end iq
namespace sS
variable(x:Ow)(n:Int)
def X:=dp [pF.c] 31
def fM:Norm U:=⟨[],[31],[],[],[],[],[]⟩
def f0:R:=aU ((u64.wrap n) !=0) (aU ((u64.wrap n) !=0) (aU ((uB (Int.tmod x.vN (u64.wrap n))&&(uB x.yp&&(uB (u64.wrap n)&&bz (Int.tmod x.vN (u64.wrap n)) (u64.wrap n))))) (some ((.agg [(.int .u64 (u64.wrap (Int.tdiv x.vN (u64.wrap n)))),(.int .u64 ((pF.P (Int.tmod x.vN (u64.wrap n)) x.yp (u64.wrap n)).1))]),[]))))
theorem run:gH X (dG f472) .d fM [(4,523)] [31] [] [.agg [.int .u64 x.vN,.int .u64 x.yp],.int .i64 n]=f0 x n:=aa
theorem bE(h:(AK x&&(bg 1 n&&bg n 9223372036854775807))=true):jF O9 (f0 x n):=by
 simp only[aj]at h;obtain⟨h0,h1,h2⟩:=h;obtain⟨x1,x2⟩:=aZ.1 h0;obtain⟨x3,x4⟩:=gP.1 x1;have h1:=ja h1;have h2:=ja h2;unfold f0;rw[pT (x:=n) ab ab]
 have hm:uB (Int.tmod x.vN n)=true/\Int.tmod x.vN n<n:=by
  rw[Int.tmod_eq_emod_of_nonneg x3]
  have:=Int.emod_nonneg x.vN (show n≠0 by omega)
  have:=Int.emod_lt_of_pos x.vN (show 0<n by omega)
  exact⟨gP.2 ⟨ab,ab⟩,ab⟩
 exact .aU (Pa ab) (.aU (Pa ab) (.aU (eN hm.1 (eN x2 (eN (gP.2 ⟨ab,ab⟩) (eh hm.2)))) (jF.mk (q:=O9) ⟨_,_⟩)))
def P:Ow:=Classical.epsilon λy=>f0 x n=some (O9 y)
theorem aw(h:(AK x&&(bg 1 n&&bg n 9223372036854775807))=true):f0 x n=some (.agg [.int .u64 (P x n).vN,.int .u64 (P x n).yp],[]):=(bE x n h).iJ
theorem ok:bp prog X:=fV lq (ss _) pD
theorem jE:kZ prog X:=λg sp h=>by cases h
theorem spec(h:((AK x&&(bg 1 n&&bg n 9223372036854775807)))=true):cV prog E 472 [(.agg [(.int .u64 x.vN),(.int .u64 x.yp)]),(.int .i64 n)] (.agg [(.int .u64 (((sS.P x n)).vN)),(.int .u64 (((sS.P x n)).yp))]) []:=cR ok jE call472 func472 aa aa aa (by show 2<=31;decide) af (by rfl) ((run x n).trans (aw x n h))
def sp:Sp U El:=λargs k=>match args with
 |[.agg [.int .u64 yK,.int .u64 yJ],.int .i64 n]=>aU ((AK (⟨yK,yJ⟩:Ow)&&(bg 1 n&&bg n 9223372036854775807))) (k (.agg [(.int .u64 (((sS.P (⟨yK,yJ⟩:Ow) n)).vN)),(.int .u64 (((sS.P (⟨yK,yJ⟩:Ow) n)).yp))]) [])
 |_=>none
theorem du:gQ prog E 472 sp where
 pe:=λvs=>by
  unfold sp;split
  ·exact kK _ _ _
  ·exact⟨none,λ_=>rfl⟩
 ok:=λvs k r h=>by
  unfold sp at h;split at h
  ·obtain⟨h1,h2⟩:=aQ h;exact⟨_,_,.inl (spec ⟨_,_⟩ _ h1),h2⟩
  ·cases h
end sS
namespace BN
variable(gW:bn U El)(r3:Int)(x:Ow)
def X:=dp [⟨191,oC.sp,oC.du⟩] 42
def bd:=dG f473
def RR:bn U El:=λst=>cN (cS [2]) st (ch [2] [])
def eE:Norm U:=cS [3]
def dI:Norm U:=⟨[],[1,3,4],[1],[],[],[],[]⟩
def an:gb U:=(.seq none .d (.seq none .d (.seq (some eE) (.seq none .d (.block (.loop dI (.seq none .d (.seq (some dI) .d .d))))) .d)))
abbrev Y1:=Int->R
abbrev Y2:=Int->Int->Ow->R
abbrev Y3:=Int->Int->Ow->R
def fY(bA:Int)(b1:Ow):St U El:=⟨[(1,.ptr 1 0),(3,.int .u64 r3),(4,.int .u64 bA)],[(1,.box 0 [.int .u64 b1.vN,.int .u64 b1.yp])]⟩
def cX(k2:Y2):R:=k2 (0:Int) (4611686018427387904:Int) x
def dR:R:=gl (i64.wrap r3)
def dQ(bA:Int)(b1:Ow)(k1:Y1)(k3:Y3):R:=ai (bz (0:Int) bA) (aU (uB (ub .u64 r3 bA)&&uB (ub .u64 r3 bA)) (ai (bz (mH (ub .u64 r3 bA) (ub .u64 r3 bA)) b1.vN) (k3 (ub .u64 r3 bA) bA b1) (ai ((mH (ub .u64 r3 bA) (ub .u64 r3 bA))==b1.vN) (ai (bg (oW (ub .u64 r3 bA) (ub .u64 r3 bA)) b1.yp) (k3 (ub .u64 r3 bA) bA b1) (k3 r3 bA b1)) (k3 r3 bA b1)))) (k1 r3)
def gf(bA:Int)(b1:Ow)(k2:Y2):R:=k2 r3 (Int.fdiv bA (2^min (Int.toNat (1:Int)) (IntKind.bits .u64))) b1
abbrev ex:=kf X bd an RR
abbrev it:=nO X bd an RR
def gu:=it dI [1,1,0,1,0,0] (cu 0 (bG eE gW) nE)
def cQ:=ex [1,1,1] RR nE
def mz(iP:bn U El):=ex [1,1,0,1,0,0,1,1] (bG dI iP) (cu 0 (bG eE gW) nE)
def f1:R:=dR r3
def f3(k2:Y2)(r3 bA:Int)(b1:Ow):R:=gf r3 bA b1 k2
def f2:Nat->Y2
 |0=>λ_ _ _=>none
 |n+1=>λr3 bA b1=>dQ r3 bA b1 f1 (f3 (f2 n))
def f0:R:=cX x (f2 100000)
theorem E1:(λr3=>(hid cQ) ⟨[(3,.int .u64 r3)],[]⟩)=f1:=by funext r3;refine cm ?_;unfold f1;exact aa
theorem E3(jW:bn U El)(k2:Y2)(h2:(λr3 bA b1=>jW (fY r3 bA b1))=k2):(λr3 bA b1=>(hid (mz (hid cQ) jW)) ⟨[(1,.ptr 1 0),(3,.int .u64 r3),(4,.int .u64 bA)],[(1,.box 0 [.int .u64 b1.vN,.int .u64 b1.yp])]⟩)=f3 k2:=by subst h2;funext r3 bA b1;refine cm ?_;unfold f3;exact aa
theorem T2:∀n,(λr3 bA b1=>gu (hid cQ) n (fY r3 bA b1))=f2 n:=by
 intro n;induction n with
 |zero=>rfl
 |succ n ih=>funext r3 bA b1;rw[f2];rw[<-E1,<-E3 (gu (hid cQ) n) _ ih];exact aa
theorem H2:(λr3 bA b1=>hid (gu (hid cQ) 100000) (fY r3 bA b1))=f2 100000:=by rw[cM];exact(T2 100000)
theorem run:ca X bd an (cS [2]) [2] [] [eA .ow x]=f0 x:=by unfold f0;rw[<-H2];exact aa
theorem loop:∀(n m:Nat) (r bit:Int),uB r=true->0<=bit->bit<2^n->n<m->jF qI (f2 m r bit x):=by
 intro n;induction n with
 |zero=>
  intro m r bit h0 h1 h2 h3;obtain⟨m,rfl⟩:=eI (by omega:m≠0)
  show jF qI (dQ r bit x f1 (f3 (f2 m)))
  unfold dQ;rw[dF ab,gy]
  exact K7 _
 |succ n ih=>
  intro m r bit h0 h1 h2 h3;obtain⟨m,rfl⟩:=eI (by omega:m≠0)
  have e:∀r',uB r'=true->jF qI (f3 (f2 m) r' bit x):=λr' h'=>by
   show jF qI (f2 m r' (Int.fdiv bit 2) x)
   rw[fR _ af]
   rw[Int.pow_succ]at h2;exact ih m _ _ h' ab ab ab
  show jF qI (dQ r bit x f1 (f3 (f2 m)))
  exact .fy (λ_=>.aU (eN (eO _) (eO _)) (.fy (λ_=>e _ (eO _)) λ_=>.fy (λ_=>.fy (λ_=>e _ (eO _)) λ_=>e _ h0) λ_=>e _ h0)) λ_=>K7 _
def P:Int:=Classical.epsilon λy=>f0 x=some (qI y)
theorem aw:f0 x=gl (P x):=Is.iJ (show jF qI (f0 x)from loop x 63 100000 0 4611686018427387904 (gP.2 ⟨af,af⟩) af af af)
def c:Ct:=⟨473,dU (A1 (aR .ow) λx=>(.int .i64 (BN.P x))),oS call473 func473 (a1 λx=>(run x).trans (aw x))⟩
end BN
def RE(p:Bool×Int):Fin U El:=(.bP [.bool p.1,.int .i64 p.2],[])
theorem Wm(x:Bool)(y:Int):jF RE (some (.bP [.bool x,.int .i64 y],[])):=jF.mk (q:=RE) (x,y)
namespace DP
variable(a b h:Int)
def X:=dp [⟨470,fS.sp,fS.du⟩,⟨471,iq.sp,iq.du⟩,⟨472,sS.sp,sS.du⟩,BN.c] 17
def f0:R:=aU (AK ((fS.P (i64.wrap (b*b)) (i64.wrap (h*h))))) (aU (AK ((iq.P ((fS.P (i64.wrap (b*b)) (i64.wrap (h*h)))) h))) (aU ((AK ((iq.P ((iq.P ((fS.P (i64.wrap (b*b)) (i64.wrap (h*h)))) h)) (289:Int)))&&(bg 1 (100000:Int)&&bg (100000:Int) 9223372036854775807))) (gl ((BN.P ((sS.P ((iq.P ((iq.P ((fS.P (i64.wrap (b*b)) (i64.wrap (h*h)))) h)) (289:Int))) (100000:Int))))))))
theorem run:ca X (dG f454) .d (cS [4]) [4] [] [.int .i64 b,.int .i64 h]=f0 b h:=aa
theorem bE:jF qI (f0 a b):=.aU (fS.vd _ _) (.aU (iq.vd _ (fS.vd _ _)) (.aU (eN (iq.vd _ (iq.vd _ (fS.vd _ _))) rfl) (K7 _)))
def P:Int:=Classical.epsilon λx=>f0 a b=some (qI x)
theorem aw:f0 a b=some (qI (P a b)):=(bE a b).iJ
def c:Ct:=⟨454,dU (A2 aI aI λb h=>(.int .i64 (DP.P b h))),oS call454 func454 (a2 λb h=>(run b h).trans (aw b h))⟩
end DP
namespace vL
variable(a h b:Int)
def X:=dp [⟨470,fS.sp,fS.du⟩,⟨471,iq.sp,iq.du⟩,⟨472,sS.sp,sS.du⟩,BN.c] 13
def f0:R:=aU (AK (fS.P a a)) (aU (AK (iq.P (fS.P a a) h)) (aU ((AK ((iq.P (iq.P (fS.P a a) h) (8829:Int)))&&(bg 1 (1250000:Int)&&bg (1250000:Int) 9223372036854775807))) (gl ((BN.P ((sS.P ((iq.P (iq.P (fS.P a a) h) (8829:Int))) (1250000:Int))))))))
theorem run:ca X (dG f474) .d (cS [4]) [4] [] [.int .i64 a,.int .i64 h]=f0 a h:=aa
theorem bE:jF qI (f0 a b):=.aU (fS.vd _ _) (.aU (iq.vd _ (fS.vd _ _)) (.aU (eN (iq.vd _ (iq.vd _ (fS.vd _ _))) rfl) (K7 _)))
def P:Int:=Classical.epsilon λx=>f0 a b=some (qI x)
theorem aw:f0 a b=some (qI (P a b)):=(bE a b).iJ
def c:Ct:=⟨474,dU (A2 aI aI λa h=>(.int .i64 (vL.P a h))),oS call474 func474 (a2 λa h=>(run a h).trans (aw a h))⟩
end vL
namespace zB
def X:=dp [] 7
def f0(q:Int):R:=ai (bz (1099511627776:Int) q) (some ((.bP [.int .i64 (0:Int),.int .i64 (5:Int)]),[])) (some ((.bP [.int .i64 q,.int .i64 (0:Int)]),[]))
theorem run(q):ca X (dG f453) .d (cS [2,3]) [2,3] [] [.int .i64 q]=f0 q:=aa
theorem bE(q:Int):jF kX (f0 q):=by unfold f0;repeat' first|exact j3 _ _|(refine Is.fy (λ_=>?_) (λ_=>?_))
def P(q:Int):Int×Int:=De kX (f0 q)
theorem aw(q:Int):f0 q=some (kX (P q)):=(bE q).iJ
def c:Ct:=⟨453,dU (A1 aI λq=>(kX (P q)).1),oS call453 func453 (a1 λq=>(run q).trans (bE q).iJ)⟩
end zB
namespace Gi
variable(l:cJ)
def X:=dp [zy.c,vK.c] 16
def f0:R:=ai (l.lk==(2:Int)) (ai (mo 4194304 l.lu) (aq (bg (1:Int) l.lw&&bg l.lw (1048576:Int))) (aq false)) (aq false)
theorem run:ca X (dG f450) .d (cS [2]) [2] [] [eA .link l]=f0 l:=aa
theorem bE:jF qB (f0 l):=by unfold f0;repeat' first|exact okB _|(refine Is.fy (λ_=>?_) (λ_=>?_))
def P:Bool:=De qB (f0 l)
theorem aw:f0 l=some (qB (P l)):=(bE l).iJ
def c:Ct:=⟨450,dU (A1 (aR .link) λl=>(qB (P l)).1),oS call450 func450 (a1 λl=>(run l).trans (bE l).iJ)⟩
end Gi
namespace Gj
variable(l:cJ)
def X:=dp [zy.c,vK.c] 21
def f0:R:=ai (l.lk==(3:Int)) (ai (mo 4194304 l.lu) (ai (bg (1:Int) l.lw&&bg l.lw (32768:Int)) (aq (bg (1:Int) l.lh&&bg l.lh (32768:Int))) (aq false)) (aq false)) (aq false)
theorem run:ca X (dG f455) .d (cS [2]) [2] [] [eA .link l]=f0 l:=aa
theorem bE:jF qB (f0 l):=by unfold f0;repeat' first|exact okB _|(refine Is.fy (λ_=>?_) (λ_=>?_))
def P:Bool:=De qB (f0 l)
theorem aw:f0 l=some (qB (P l)):=(bE l).iJ
def c:Ct:=⟨455,dU (A1 (aR .link) λl=>(qB (P l)).1),oS call455 func455 (a1 λl=>(run l).trans (bE l).iJ)⟩
end Gj
namespace vO
variable(l:cJ)(up down:Int)
def X:=dp [] 14
def f0:R:=gl (bif bz (0:Int) (i64.wrap (up-(bif bz down l.lu then l.lu else down)))then(i64.wrap (up-(bif bz down l.lu then l.lu else down)))else(0:Int))
theorem run:ca X (dG f452) .d (cS [6]) [6] [] [eA .link l,.int .i64 up,.int .i64 down]=f0 l up down:=aa
theorem bE:jF qI (f0 l up down):=by unfold f0;repeat' first|exact K7 _|(refine Is.fy (λ_=>?_) (λ_=>?_))
def P:Int:=De qI (f0 l up down)
theorem aw:f0 l up down=some (qI (P l up down)):=(bE l up down).iJ
def c:Ct:=⟨452,dU (A3 (aR .link) aI aI λl up down=>(qI (P l up down)).1),oS call452 func452 (a3 λl up down=>(run l up down).trans (bE l up down).iJ)⟩
end vO
namespace wV
variable(dB qA:Int)(fA gA hA:ah UInt8)(iA jA kA lA:Int)(mA:ah UInt8)(dA nA:Int)(cA:ah cH)(l:cJ)(up down:Int)
def X:=dp [Gi.c,zy.c,vO.c,zB.c,DP.c] 35
def bd:=dG f425
def RR:bn U El:=λst=>cN (cS [6,7]) st (ch [6,7] [])
def an:gb U:=(.seq none .d (.seq (some (⟨[],[1,2,3],[3],[],[],[],[(3,10,.cP)]⟩)) .d .d))
abbrev Y1:=Int->Int->(ah UInt8)->(ah UInt8)->(ah UInt8)->Int->Int->Int->Int->(ah UInt8)->Int->Int->(ah cH)->R
def cX(k1:Y1):R:=ai (!(Gi.P l)) (some ((.bP [.int .i64 (0:Int),.int .i64 (1:Int)]),[])) (ai (!(mo 4194304 up)) (some ((.bP [.int .i64 (0:Int),.int .i64 (2:Int)]),[])) (ai (!(mo 4194304 down)) (some ((.bP [.int .i64 (0:Int),.int .i64 (2:Int)]),[])) (k1 up down l.ln l.lf l.lt l.lk l.ll l.lu l.ld l.lc l.lw l.lh l.lv)))
def dR:R:=ai (bz (1048576:Int) ((vO.P (⟨fA,gA,hA,iA,jA,kA,lA,mA,dA,nA,cA⟩:cJ) dB qA))) (some ((.bP [.int .i64 (0:Int),.int .i64 (5:Int)]),[])) (some ((.bP [(.int .i64 ((zB.P ((DP.P dA ((vO.P (⟨fA,gA,hA,iA,jA,kA,lA,mA,dA,nA,cA⟩:cJ) dB qA))))).1)),(.int .i64 ((zB.P ((DP.P dA ((vO.P (⟨fA,gA,hA,iA,jA,kA,lA,mA,dA,nA,cA⟩:cJ) dB qA))))).2))]),[]))
abbrev ex:=kf X bd an RR
def cQ:=ex [1,1] RR nE
def f1:R:=dR dB qA fA gA hA iA jA kA lA mA dA nA cA
def f0:R:=cX l up down f1
theorem E1:(λdB qA fA gA hA iA jA kA lA mA dA nA cA=>(hid cQ) ⟨[(1,.int .i64 dB),(2,.int .i64 qA),(3,.ptr 3 0)],[(3,.box 0 [.str fA,.str gA,.str hA,.int .i64 iA,.int .i64 jA,.int .i64 kA,.int .i64 lA,.str mA,.int .i64 dA,.int .i64 nA,.au .cP cA])]⟩)=f1:=by funext dB qA fA gA hA iA jA kA lA mA dA nA cA;refine cm ?_;unfold f1;exact aa
theorem run:ca X bd an (cS [6,7]) [6,7] [] [eA .link l,.int .i64 up,.int .i64 down]=f0 l up down:=by unfold f0;rw[<-E1];exact aa
theorem bE:jF kX (f0 l up down):=by unfold f0 cX f1 dR;repeat' first|exact j3 _ _|(refine Is.fy (λ_=>?_) (λ_=>?_))
def P:Int×Int:=De kX (f0 l up down)
theorem aw:f0 l up down=some (kX (P l up down)):=(bE l up down).iJ
def c:Ct:=⟨425,dU (A3 (aR .link) aI aI λl up down=>(kX (P l up down)).1),oS call425 func425 (a3 λl up down=>(run l up down).trans (bE l up down).iJ)⟩
end wV
namespace HN
variable(l:cJ)(s h:Int)
def X:=dp [vL.c] 19
def f0:R:=gl ((vL.P (i64.wrap (l.lw*(bif bz h (i64.wrap (Int.tdiv (i64.wrap (l.lh*s)) (1000:Int)))then h else(i64.wrap (Int.tdiv (i64.wrap (l.lh*s)) (1000:Int)))))) h))
theorem run:ca X (dG f457) .d (cS [6]) [6] [] [eA .link l,.int .i64 s,.int .i64 h]=f0 l s h:=aa
theorem bE:jF qI (f0 l s h):=by unfold f0;repeat' first|exact K7 _|(refine Is.fy (λ_=>?_) (λ_=>?_))
def P:Int:=De qI (f0 l s h)
theorem aw:f0 l s h=some (qI (P l s h)):=(bE l s h).iJ
def c:Ct:=⟨457,dU (A3 (aR .link) aI aI λl s h=>(qI (P l s h)).1),oS call457 func457 (a3 λl s h=>(run l s h).trans (bE l s h).iJ)⟩
end HN
namespace BP
variable(aA eB rA:Int)(sA tA uA:ah UInt8)(vA wA xA yA:Int)(zA:ah UInt8)(l:cJ)(s up down:Int)
def X:=dp [zy.c,vO.c,zB.c,Gj.c,vK.c,HN.c] 42
def bd:=dG f426
def RR:bn U El:=λst=>cN (cS [8,9]) st (ch [8,9] [])
def an:gb U:=(.seq none .d (.seq (some (⟨[],[1,2,3,4],[4],[],[],[],[(4,10,.cP)]⟩)) .d .d))
abbrev Y1:=Int->Int->Int->(ah UInt8)->(ah UInt8)->(ah UInt8)->Int->Int->Int->Int->(ah UInt8)->Int->Int->(ah cH)->R
def cX(k1:Y1):R:=ai (!(Gj.P l)) (some ((.bP [.int .i64 (0:Int),.int .i64 (1:Int)]),[])) (ai (!(bg (0:Int) s&&bg s (1000:Int))) (some ((.bP [.int .i64 (0:Int),.int .i64 (2:Int)]),[])) (ai (!(mo 4194304 up)) (some ((.bP [.int .i64 (0:Int),.int .i64 (2:Int)]),[])) (ai (!(mo 4194304 down)) (some ((.bP [.int .i64 (0:Int),.int .i64 (2:Int)]),[])) (k1 s up down l.ln l.lf l.lt l.lk l.ll l.lu l.ld l.lc l.lw l.lh l.lv))))
def dR(bB cB:Int)(oA:ah cH):R:=ai (bz (1048576:Int) ((vO.P (⟨sA,tA,uA,vA,wA,xA,yA,zA,bB,cB,oA⟩:cJ) eB rA))) (some ((.bP [.int .i64 (0:Int),.int .i64 (5:Int)]),[])) (some ((.bP [(.int .i64 ((zB.P ((HN.P (⟨sA,tA,uA,vA,wA,xA,yA,zA,bB,cB,oA⟩:cJ) aA ((vO.P (⟨sA,tA,uA,vA,wA,xA,yA,zA,bB,cB,oA⟩:cJ) eB rA))))).1)),(.int .i64 ((zB.P ((HN.P (⟨sA,tA,uA,vA,wA,xA,yA,zA,bB,cB,oA⟩:cJ) aA ((vO.P (⟨sA,tA,uA,vA,wA,xA,yA,zA,bB,cB,oA⟩:cJ) eB rA))))).2))]),[]))
abbrev ex:=kf X bd an RR
def cQ:=ex [1,1] RR nE
def f1(bB cB:Int)(oA:ah cH):R:=dR aA eB rA sA tA uA vA wA xA yA zA bB cB oA
def f0:R:=cX l s up down f1
theorem E1:(λaA eB rA sA tA uA vA wA xA yA zA bB cB oA=>(hid cQ) ⟨[(1,.int .i64 aA),(2,.int .i64 eB),(3,.int .i64 rA),(4,.ptr 4 0)],[(4,.box 0 [.str sA,.str tA,.str uA,.int .i64 vA,.int .i64 wA,.int .i64 xA,.int .i64 yA,.str zA,.int .i64 bB,.int .i64 cB,.au .cP oA])]⟩)=f1:=by funext aA eB rA sA tA uA vA wA xA yA zA bB cB oA;refine cm ?_;unfold f1;exact aa
theorem run:ca X bd an (cS [8,9]) [8,9] [] [eA .link l,.int .i64 s,.int .i64 up,.int .i64 down]=f0 l s up down:=by unfold f0;rw[<-E1];exact aa
theorem bE:jF kX (f0 l s up down):=by unfold f0 cX f1 dR;repeat' first|exact j3 _ _|(refine Is.fy (λ_=>?_) (λ_=>?_))
def P:Int×Int:=De kX (f0 l s up down)
theorem aw:f0 l s up down=some (kX (P l s up down)):=(bE l s up down).iJ
def c:Ct:=⟨426,dU (A4 (aR .link) aI aI aI λl s up down=>(kX (P l s up down)).1),oS call426 func426 (a4 λl s up down=>(run l s up down).trans (bE l s up down).iJ)⟩
end BP
theorem SG{l:cJ}(h:bU (List.length (cJ.lv l)) 90000=true)(a b:Node):gm ⟨[a,b],[l]⟩=true:=by
 simp only[gm,l6,List.all_nil,h,dJ]
 rfl
namespace zm
variable(l:cJ)
def X:=dp [nS.c] 24
def f0:R:=ai (l.lk !=(4:Int)) (aq false) (aU (gm (⟨([(⟨l.lf,(1:Int),(0:Int),(0:Int),(0:Int),(1:Int),([(⟨(0:Int),(0:Int)⟩:cH),(⟨(1:Int),(0:Int)⟩:cH)]:ah cH),false,(0:Int)⟩:Node),(⟨l.lt,(3:Int),(0:Int),(0:Int),(0:Int),(0:Int),[],false,(0:Int)⟩:Node)]:ah Node),([l]:ah cJ)⟩:Net)) (aq (eR (⟨([(⟨l.lf,(1:Int),(0:Int),(0:Int),(0:Int),(1:Int),([(⟨(0:Int),(0:Int)⟩:cH),(⟨(1:Int),(0:Int)⟩:cH)]:ah cH),false,(0:Int)⟩:Node),(⟨l.lt,(3:Int),(0:Int),(0:Int),(0:Int),(0:Int),[],false,(0:Int)⟩:Node)]:ah Node),([l]:ah cJ)⟩:Net))))
theorem run:ca X (dG f367) .d (cS [2]) [2] [] [eA .link l]=f0 l:=aa
theorem bE(h:(bU (List.length (cJ.lv l)) 90000)=true):jF qB (f0 l):=by unfold f0;repeat' first|exact okB _|(refine Is.aU (by exact SG h _ _) ?_)|(refine Is.fy (λ_=>?_) (λ_=>?_))
def P:Bool:=De qB (f0 l)
theorem aw(h:(bU (List.length (cJ.lv l)) 90000)=true):f0 l=some (qB (P l)):=(bE l h).iJ
def c:Ct:=⟨367,cj (A1 (aR .link) λl=>((bU (List.length (cJ.lv l)) 90000),(qB (P l)).1)),ir call367 func367 (a1 λl e_=>(run l).trans (bE l e_).iJ)⟩
end zm
namespace Hx
variable(l:cJ)(s d:Int)
def X:=dp [mj.c] 22
def f0:R:=some ((.bP [(.int .i64 (i64.wrap (Int.tdiv (i64.wrap (((mj.P l.lv d).1)*s)) (1000:Int)))),(.int .i64 ((mj.P l.lv d).2))]),[])
theorem run:ca X (dG f458) .d (cS [6,7]) [6,7] [] [eA .link l,.int .i64 s,.int .i64 d]=f0 l s d:=aa
theorem bE:jF kX (f0 l s d):=by unfold f0;repeat' first|exact j3 _ _|(refine Is.fy (λ_=>?_) (λ_=>?_))
def P:Int×Int:=De kX (f0 l s d)
theorem aw:f0 l s d=some (kX (P l s d)):=(bE l s d).iJ
def c:Ct:=⟨458,dU (A3 (aR .link) aI aI λl s d=>(kX (P l s d)).1),oS call458 func458 (a3 λl s d=>(run l s d).trans (bE l s d).iJ)⟩
end Hx
namespace HC
variable(aA pA:Int)(fA gA hA:ah UInt8)(iA jA kA lA:Int)(mA:ah UInt8)(dA nA:Int)(cA:ah cH)(l:cJ)(s d:Int)
def X:=dp [zm.c,Co.c,Hx.c] 27
def bd:=dG f427
def RR:bn U El:=λst=>cN (cS [6,7]) st (ch [6,7] [])
def an:gb U:=(.seq none .d (.seq (some (⟨[],[1,2,3],[3],[],[],[],[(3,10,.cP)]⟩)) .d .d))
abbrev Y1:=Int->Int->(ah UInt8)->(ah UInt8)->(ah UInt8)->Int->Int->Int->Int->(ah UInt8)->Int->Int->(ah cH)->R
def cX(k1:Y1):R:=aU (bU (List.length (cJ.lv l)) 90000) (ai (!(zm.P l)) (some ((.bP [.int .i64 (0:Int),.int .i64 (1:Int)]),[])) (ai (!(bg (0:Int) s&&bg s (1000:Int))) (some ((.bP [.int .i64 (0:Int),.int .i64 (2:Int)]),[])) (ai (!(bg (0:Int) d&&bg d (4194304:Int))) (some ((.bP [.int .i64 (0:Int),.int .i64 (2:Int)]),[])) (k1 s d l.ln l.lf l.lt l.lk l.ll l.lu l.ld l.lc l.lw l.lh l.lv))))
def dR:R:=some ((.bP [(.int .i64 ((Hx.P (⟨fA,gA,hA,iA,jA,kA,lA,mA,dA,nA,cA⟩:cJ) aA pA).1)),(.int .i64 ((Hx.P (⟨fA,gA,hA,iA,jA,kA,lA,mA,dA,nA,cA⟩:cJ) aA pA).2))]),[])
abbrev ex:=kf X bd an RR
def cQ:=ex [1,1] RR nE
def f1:R:=dR aA pA fA gA hA iA jA kA lA mA dA nA cA
def f0:R:=cX l s d f1
theorem E1:(λaA pA fA gA hA iA jA kA lA mA dA nA cA=>(hid cQ) ⟨[(1,.int .i64 aA),(2,.int .i64 pA),(3,.ptr 3 0)],[(3,.box 0 [.str fA,.str gA,.str hA,.int .i64 iA,.int .i64 jA,.int .i64 kA,.int .i64 lA,.str mA,.int .i64 dA,.int .i64 nA,.au .cP cA])]⟩)=f1:=by funext aA pA fA gA hA iA jA kA lA mA dA nA cA;refine cm ?_;unfold f1;exact aa
theorem run:ca X bd an (cS [6,7]) [6,7] [] [eA .link l,.int .i64 s,.int .i64 d]=f0 l s d:=by unfold f0;rw[<-E1];exact aa
theorem bE(h:(bU (List.length (cJ.lv l)) 90000)=true):jF kX (f0 l s d):=by unfold f0 cX f1 dR;repeat' first|exact j3 _ _|(refine Is.aU (by exact h) ?_)|(refine Is.fy (λ_=>?_) (λ_=>?_))
def P:Int×Int:=De kX (f0 l s d)
theorem aw(h:(bU (List.length (cJ.lv l)) 90000)=true):f0 l s d=some (kX (P l s d)):=(bE l s d h).iJ
def c:Ct:=⟨427,cj (A3 (aR .link) aI aI λl s d=>((bU (List.length (cJ.lv l)) 90000),(kX (P l s d)).1)),ir call427 func427 (a3 λl s d e_=>(run l s d).trans (bE l s d e_).iJ)⟩
end HC
namespace gw
variable(l:cJ)(was:Bool)(v:Int)
def X:=dp [] 20
def f0:R:=ai (bg l.lu v) (aq true) (ai was (aq (bg l.ld v)) (aq false))
theorem run:ca X (dG f369) .d (cS [6]) [6] [] [eA .link l,.bool was,.int .i64 v]=f0 l was v:=aa
theorem bE:jF qB (f0 l was v):=by unfold f0;repeat' first|exact okB _|(refine Is.fy (λ_=>?_) (λ_=>?_))
def P:Bool:=De qB (f0 l was v)
theorem aw:f0 l was v=some (qB (P l was v)):=(bE l was v).iJ
def c:Ct:=⟨369,dU (A3 (aR .link) aB aI λl was v=>(qB (P l was v)).1),oS call369 func369 (a3 λl was v=>(run l was v).trans (bE l was v).iJ)⟩
end gw
namespace SV
variable(l:cJ)(was:Bool)(v:Int)
def X:=dp [zm.c,KY.c,gw.c] 20
def f0:R:=aU (bU (List.length (cJ.lv l)) 90000) (ai (!(zm.P l)) (some ((.bP [.bool false,.int .i64 (1:Int)]),[])) (ai (!(mo 4194304 v)) (some ((.bP [.bool false,.int .i64 (2:Int)]),[])) (some ((.bP [.bool (gw.P l was v),.int .i64 (0:Int)]),[]))))
theorem run:ca X (dG f309) .d (cS [6,7]) [6,7] [] [eA .link l,.bool was,.int .i64 v]=f0 l was v:=aa
theorem bE(h:(bU (List.length (cJ.lv l)) 90000)=true):jF RE (f0 l was v):=by unfold f0;repeat' first|exact Wm _ _|(refine Is.aU (by exact h) ?_)|(refine Is.fy (λ_=>?_) (λ_=>?_))
def P:Bool×Int:=De RE (f0 l was v)
theorem aw(h:(bU (List.length (cJ.lv l)) 90000)=true):f0 l was v=some (RE (P l was v)):=(bE l was v h).iJ
def c:Ct:=⟨309,cj (A3 (aR .link) aB aI λl was v=>((bU (List.length (cJ.lv l)) 90000),(RE (P l was v)).1)),ir call309 func309 (a3 λl was v e_=>(run l was v).trans (bE l was v e_).iJ)⟩
end SV
end
end Go.Proofs.YtfmamkmmohilgaaGreatDoor
