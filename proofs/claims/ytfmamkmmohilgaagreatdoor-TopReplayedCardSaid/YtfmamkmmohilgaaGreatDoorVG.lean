/- Contracts of functions that the law reaches, first part: what each returns, or that it returns. Conditions: each contract's own precondition. -/
import Derived.Test.YtfmamkmmohilgaaGreatDoorEX
namespace Go.Proofs.YtfmamkmmohilgaaGreatDoor
open Go.Proofs.Tryz IntKind
set_option linter.all false
set_option maxRecDepth 100000
noncomputable section
namespace pF
variable(oV Dg:bn U El)(qA pA y2 s8 hA cA fA iA hi lo y s kA oA rA sA lA q1:Int)
def X:=dp [⟨248,Qg.sp,Qg.du⟩] 135
def bd:=dG f192
def RR:bn U El:=λst=>cN (cS [6,7]) st (ch [6,7] [])
def eE:Norm U:=cS [0,1,2]
def jY:Norm U:=cS [2,8,9,10,11,13,14,15]
def xT:Norm U:=cS [2,8,9,10,11,13,14,15,16]
def sV:Norm U:=cS [2,8,14,15,17,18]
def I9:Norm U:=cS [2,8,9,10,14,15,16,17,18]
def an:gb U:=(.seq none .d (.seq (some eE) .d (.seq (some eE) .d (.seq none .d (.seq none .d (.seq none .d (.seq none .d (.seq none .d (.seq none .d (.seq none .d (.seq none .d (.seq none .d (.seq none .d (.seq none .d (.seq (some jY) (.block (.loop xT (.seq (some xT) .d .d))) (.seq none .d (.seq none .d (.seq none .d (.seq (some sV) (.block (.loop I9 (.seq (some I9) .d .d))) .d)))))))))))))))))))
abbrev Y1:=Int->Int->Int->R
abbrev Y2:=Int->Int->Int->R
abbrev Y3:=Int->Int->Int->Int->Int->Int->Int->Int->R
abbrev Y4:=Int->Int->Int->Int->Int->Int->Int->Int->Int->R
abbrev Y5:=Int->Int->Int->Int->Int->Int->Int->Int->Int->R
abbrev Y6:=Int->Int->Int->Int->Int->Int->R
abbrev Y7:=Int->Int->Int->Int->Int->Int->Int->Int->Int->R
abbrev Y8:=Int->Int->Int->Int->Int->Int->Int->Int->Int->R
def J1(bA dA aA:Int):St U El:=⟨[(2,.int .u64 y2),(8,.int .u64 s8),(9,.int .u64 hA),(10,.int .u64 cA),(11,.int .u64 fA),(13,.int .u64 iA),(14,.int .u64 bA),(15,.int .u64 dA),(16,.int .u64 aA)],[]⟩
def L1(bA dA aA gA jA:Int):St U El:=⟨[(2,.int .u64 y2),(8,.int .u64 s8),(9,.int .u64 hA),(10,.int .u64 cA),(14,.int .u64 bA),(15,.int .u64 dA),(16,.int .u64 aA),(17,.int .u64 gA),(18,.int .u64 jA)],[]⟩
def cX(k1:Y1):R:=ai (y==(0:Int)) (none) (k1 hi lo y)
def dR(k2:Y2):R:=ai (bg y2 qA) (none) (k2 qA pA y2)
def dQ(k4:Y4):R:=ai (qA==(0:Int)) (aU (y2 !=0) (aU (y2 !=0) (some ((.bP [(.int .u64 (u64.wrap (Int.tdiv pA y2))),.int .u64 (Int.tmod pA y2)]),[])))) (aU (uB y2) (aU (bg 0 (u64.wrap (rT y2))) (aU (bg 0 (u64.wrap (rT y2))) (aU (bg 0 (u64.wrap ((64:Int)-(u64.wrap (rT y2))))) (aU (bg 0 (u64.wrap (rT y2))) (aU ((Int.fdiv (u64.wrap (y2*2^min (Int.toNat (u64.wrap (rT y2))) (IntKind.bits .u64))) (2^min (Int.toNat (32:Int)) (IntKind.bits .u64))) !=0) (k4 (u64.wrap (y2*2^min (Int.toNat (u64.wrap (rT y2))) (IntKind.bits .u64))) (u64.wrap (rT y2)) (Int.fdiv (u64.wrap (y2*2^min (Int.toNat (u64.wrap (rT y2))) (IntKind.bits .u64))) (2^min (Int.toNat (32:Int)) (IntKind.bits .u64))) (MD .u64 (u64.wrap (y2*2^min (Int.toNat (u64.wrap (rT y2))) (IntKind.bits .u64))) (4294967295:Int)) (ub .u64 (u64.wrap (qA*2^min (Int.toNat (u64.wrap (rT y2))) (IntKind.bits .u64))) (Int.fdiv pA (2^min (Int.toNat (u64.wrap ((64:Int)-(u64.wrap (rT y2))))) (IntKind.bits .u64)))) (Int.fdiv (u64.wrap (pA*2^min (Int.toNat (u64.wrap (rT y2))) (IntKind.bits .u64))) (2^min (Int.toNat (32:Int)) (IntKind.bits .u64))) (MD .u64 (u64.wrap (pA*2^min (Int.toNat (u64.wrap (rT y2))) (IntKind.bits .u64))) (4294967295:Int)) (u64.wrap (Int.tdiv (ub .u64 (u64.wrap (qA*2^min (Int.toNat (u64.wrap (rT y2))) (IntKind.bits .u64))) (Int.fdiv pA (2^min (Int.toNat (u64.wrap ((64:Int)-(u64.wrap (rT y2))))) (IntKind.bits .u64)))) (Int.fdiv (u64.wrap (y2*2^min (Int.toNat (u64.wrap (rT y2))) (IntKind.bits .u64))) (2^min (Int.toNat (32:Int)) (IntKind.bits .u64))))) (u64.wrap ((ub .u64 (u64.wrap (qA*2^min (Int.toNat (u64.wrap (rT y2))) (IntKind.bits .u64))) (Int.fdiv pA (2^min (Int.toNat (u64.wrap ((64:Int)-(u64.wrap (rT y2))))) (IntKind.bits .u64))))-(u64.wrap ((u64.wrap (Int.tdiv (ub .u64 (u64.wrap (qA*2^min (Int.toNat (u64.wrap (rT y2))) (IntKind.bits .u64))) (Int.fdiv pA (2^min (Int.toNat (u64.wrap ((64:Int)-(u64.wrap (rT y2))))) (IntKind.bits .u64)))) (Int.fdiv (u64.wrap (y2*2^min (Int.toNat (u64.wrap (rT y2))) (IntKind.bits .u64))) (2^min (Int.toNat (32:Int)) (IntKind.bits .u64)))))*(Int.fdiv (u64.wrap (y2*2^min (Int.toNat (u64.wrap (rT y2))) (IntKind.bits .u64))) (2^min (Int.toNat (32:Int)) (IntKind.bits .u64))))))))))))))
def gf(bA dA:Int)(k7:Y7):R:=aU (hA !=0) (k7 y2 s8 hA cA bA dA (u64.wrap ((u64.wrap ((u64.wrap ((u64.wrap (fA*(4294967296:Int)))+iA))-(u64.wrap (dA*y2))))-(u64.wrap ((u64.wrap (Int.tdiv (u64.wrap ((u64.wrap ((u64.wrap (fA*(4294967296:Int)))+iA))-(u64.wrap (dA*y2)))) hA))*hA)))) (u64.wrap ((u64.wrap ((u64.wrap (fA*(4294967296:Int)))+iA))-(u64.wrap (dA*y2)))) (u64.wrap (Int.tdiv (u64.wrap ((u64.wrap ((u64.wrap (fA*(4294967296:Int)))+iA))-(u64.wrap (dA*y2)))) hA)))
def l_(bA dA aA:Int)(k3:Y3)(k5:Y5):R:=ai (bg (4294967296:Int) dA) (k5 y2 s8 hA cA fA iA bA dA aA) (ai (bz (u64.wrap ((u64.wrap ((4294967296:Int)*aA))+iA)) (u64.wrap (dA*cA))) (k5 y2 s8 hA cA fA iA bA dA aA) (k3 y2 s8 hA cA fA iA bA dA))
def sk(bA dA aA:Int)(k3:Y3)(k4:Y4):R:=ai (bg (4294967296:Int) (u64.wrap (aA+hA))) (k3 y2 s8 hA cA fA iA bA (u64.wrap (dA-(1:Int)))) (k4 y2 s8 hA cA fA iA bA (u64.wrap (dA-(1:Int))) (u64.wrap (aA+hA)))
def pQ(bA dA gA jA:Int):R:=aU (bg 0 s8) (some ((.bP [(.int .u64 (u64.wrap ((u64.wrap (dA*(4294967296:Int)))+jA))),(.int .u64 (Int.fdiv (u64.wrap ((u64.wrap ((u64.wrap (gA*(4294967296:Int)))+bA))-(u64.wrap (jA*y2)))) (2^min s8.toNat (IntKind.bits .u64))))]),[]))
def wS(bA dA aA gA jA:Int)(k6:Y6)(k8:Y8):R:=ai (bg (4294967296:Int) jA) (k8 y2 s8 hA cA bA dA aA gA jA) (ai (bz (u64.wrap ((u64.wrap ((4294967296:Int)*aA))+bA)) (u64.wrap (jA*cA))) (k8 y2 s8 hA cA bA dA aA gA jA) (k6 y2 s8 bA dA gA jA))
def BF(bA dA aA gA jA:Int)(k6:Y6)(k7:Y7):R:=ai (bg (4294967296:Int) (u64.wrap (aA+hA))) (k6 y2 s8 bA dA gA (u64.wrap (jA-(1:Int)))) (k7 y2 s8 hA cA bA dA (u64.wrap (aA+hA)) gA (u64.wrap (jA-(1:Int))))
abbrev ex:=kf X bd an RR
abbrev it:=nO X bd an RR
def JY:=it xT [1,1,1,1,1,1,1,1,1,1,1,1,1,1,0,0,0] (cu 0 (bG jY oV) nE)
def Qo:=it I9 [1,1,1,1,1,1,1,1,1,1,1,1,1,1,1,1,1,1,0,0,0] (cu 2 (bG sV Dg) nE)
def cQ:=ex [1,1] RR nE
def ib:=ex [1,1,1] RR nE
def mz:=ex [1,1,1,1,1,1,1,1,1,1,1,1,1,1,1] RR nE
def rb(Ff:bn U El):=ex [1,1,1,1,1,1,1,1,1,1,1,1,1,1,0,0,0,1] (bG xT Ff) (cu 0 (bG jY oV) nE)
def ui:=ex [1,1,1,1,1,1,1,1,1,1,1,1,1,1,1,1,1,1,1] RR nE
def B5(OT:bn U El):=ex [1,1,1,1,1,1,1,1,1,1,1,1,1,1,1,1,1,1,0,0,0,1] (bG I9 OT) (cu 2 (bG sV Dg) nE)
def f6(bA dA gA jA:Int):R:=pQ y2 s8 bA dA gA jA
def f8(k7:Y7)(y2 s8 hA cA bA dA aA gA jA:Int):R:=BF y2 s8 hA cA bA dA aA gA jA f6 k7
def f7:Nat->Y7
 |0=>λ_ _ _ _ _ _ _ _ _=>none
 |n+1=>λy2 s8 hA cA bA dA aA gA jA=>wS y2 s8 hA cA bA dA aA gA jA f6 (f8 (f7 n))
def f3(bA dA:Int):R:=gf y2 s8 hA cA fA iA bA dA (f7 100000)
def f5(k4:Y4)(y2 s8 hA cA fA iA bA dA aA:Int):R:=sk y2 s8 hA cA fA iA bA dA aA f3 k4
def f4:Nat->Y4
 |0=>λ_ _ _ _ _ _ _ _ _=>none
 |n+1=>λy2 s8 hA cA fA iA bA dA aA=>l_ y2 s8 hA cA fA iA bA dA aA f3 (f5 (f4 n))
def f2:R:=dQ qA pA y2 (f4 100000)
def f1:R:=dR qA pA y2 f2
def f0:R:=cX hi lo y f1
theorem E6:(λy2 s8 bA dA gA jA=>(hid ui) ⟨[(2,.int .u64 y2),(8,.int .u64 s8),(14,.int .u64 bA),(15,.int .u64 dA),(17,.int .u64 gA),(18,.int .u64 jA)],[]⟩)=f6:=by funext y2 s8 bA dA gA jA;refine cm ?_;unfold f6;exact aa
theorem E8(AU:bn U El)(k7:Y7)(h7:(λy2 s8 hA cA bA dA aA gA jA=>AU (L1 y2 s8 hA cA bA dA aA gA jA))=k7):(λy2 s8 hA cA bA dA aA gA jA=>(hid (B5 (hid ui) AU)) ⟨[(2,.int .u64 y2),(8,.int .u64 s8),(9,.int .u64 hA),(10,.int .u64 cA),(14,.int .u64 bA),(15,.int .u64 dA),(16,.int .u64 aA),(17,.int .u64 gA),(18,.int .u64 jA)],[]⟩)=f8 k7:=by subst h7;funext y2 s8 hA cA bA dA aA gA jA;refine cm ?_;unfold f8;rw[<-E6];exact aa
theorem T7:∀n,(λy2 s8 hA cA bA dA aA gA jA=>Qo (hid ui) n (L1 y2 s8 hA cA bA dA aA gA jA))=f7 n:=by
 intro n;induction n with
 |zero=>rfl
 |succ n ih=>funext y2 s8 hA cA bA dA aA gA jA;rw[f7];rw[<-E6,<-E8 (Qo (hid ui) n) _ ih];exact aa
theorem H7:(λy2 s8 hA cA bA dA aA gA jA=>hid (Qo (hid ui) 100000) (L1 y2 s8 hA cA bA dA aA gA jA))=f7 100000:=by rw[cM];exact(T7 100000)
theorem E3:(λy2 s8 hA cA fA iA bA dA=>(hid mz) ⟨[(2,.int .u64 y2),(8,.int .u64 s8),(9,.int .u64 hA),(10,.int .u64 cA),(11,.int .u64 fA),(13,.int .u64 iA),(14,.int .u64 bA),(15,.int .u64 dA)],[]⟩)=f3:=by funext y2 s8 hA cA fA iA bA dA;refine cm ?_;unfold f3;rw[<-H7];exact aa
theorem E5(ZW:bn U El)(k4:Y4)(h4:(λy2 s8 hA cA fA iA bA dA aA=>ZW (J1 y2 s8 hA cA fA iA bA dA aA))=k4):(λy2 s8 hA cA fA iA bA dA aA=>(hid (rb (hid mz) ZW)) ⟨[(2,.int .u64 y2),(8,.int .u64 s8),(9,.int .u64 hA),(10,.int .u64 cA),(11,.int .u64 fA),(13,.int .u64 iA),(14,.int .u64 bA),(15,.int .u64 dA),(16,.int .u64 aA)],[]⟩)=f5 k4:=by subst h4;funext y2 s8 hA cA fA iA bA dA aA;refine cm ?_;unfold f5;rw[<-E3];exact aa
theorem T4:∀n,(λy2 s8 hA cA fA iA bA dA aA=>JY (hid mz) n (J1 y2 s8 hA cA fA iA bA dA aA))=f4 n:=by
 intro n;induction n with
 |zero=>rfl
 |succ n ih=>funext y2 s8 hA cA fA iA bA dA aA;rw[f4];rw[<-E3,<-E5 (JY (hid mz) n) _ ih];exact aa
theorem H4:(λy2 s8 hA cA fA iA bA dA aA=>hid (JY (hid mz) 100000) (J1 y2 s8 hA cA fA iA bA dA aA))=f4 100000:=by rw[cM];exact(T4 100000)
theorem E2:(λqA pA y2=>(hid ib) ⟨[(0,.int .u64 qA),(1,.int .u64 pA),(2,.int .u64 y2)],[]⟩)=f2:=by funext qA pA y2;refine cm ?_;unfold f2;rw[<-H4];exact aa
theorem E1:(λqA pA y2=>(hid cQ) ⟨[(0,.int .u64 qA),(1,.int .u64 pA),(2,.int .u64 y2)],[]⟩)=f1:=by funext qA pA y2;refine cm ?_;unfold f1;rw[<-E2];exact aa
theorem run:ca X bd an (cS [6,7]) [6,7] [] [.int .u64 hi,.int .u64 lo,.int .u64 y]=f0 hi lo y:=by unfold f0;rw[<-E1];exact aa
abbrev Ok:=jF Wg
theorem SZ(x y:Int):Ok (some (.bP [.int .u64 x,.int .u64 y],[])):=jF.mk (q:=Wg) (x,y)
def Up(z:Int):Prop:=2147483648<=z/\z<4294967296
theorem Tg(u:Int)(hs:0<=s)(hz:Up kA):∀(n:Nat) (r q0:Int),0<=r->r<4294967296->4294967296<=r+n*2147483648->Ok (f7 n y s kA oA lA q1 r u q0):=by
 intro n;induction n with
 |zero=>intro r q0 h0 h1 h2;omega
 |succ n ih=>
  intro r q0 h0 h1 h2;have e6:∀q,Ok (f6 y s lA q1 u q):=λq=>by
   show Ok (pQ y s lA q1 u q)
   exact .aU (iI hs) (SZ _ _)
  have e8:Ok (f8 (f7 n) y s kA oA lA q1 r u q0):=by
   show Ok (BF y s kA oA lA q1 r u q0 f6 (f7 n))
   unfold BF;rw[pT (x:=r+kA) (by have:=hz.1;omega) (by have:=hz.2;omega)]
   refine .fy (λ_=>e6 _) (λh=>ih _ _ (by have:=hz.1;omega) ?_ (by have:=hz.1;omega))
   simpa[bg]using h
  show Ok (wS y s kA oA lA q1 r u q0 f6 (f8 (f7 n)))
  exact .fy (λ_=>e8) (λ_=>.fy (λ_=>e8) (λ_=>e6 _))
theorem Vn(hs:0<=s)(hz:Up kA):Ok (f3 y s kA oA rA sA lA q1):=by
 show Ok (gf y s kA oA rA sA lA q1 (f7 (99999+1)))
 refine .aU (Pa (by have:=hz.1;omega)) ?_;generalize u64.wrap _=r;generalize u64.wrap _=u;generalize u64.wrap _=q0;have e6:∀q,Ok (f6 y s lA q1 u q):=λq=>by
  show Ok (pQ y s lA q1 u q)
  exact .aU (iI hs) (SZ _ _)
 have e8:Ok (f8 (f7 99999) y s kA oA lA q1 r u q0):=by
  show Ok (BF y s kA oA lA q1 r u q0 f6 (f7 99999))
  refine .fy (λ_=>e6 _) (λh=>?_)
  have h:=decide_eq_false_iff_not.1 h;have h0:=(gP.1 (eO (r+kA))).1;exact Tg y s kA oA lA q1 u hs hz _ _ _ h0 ab ab
 show Ok (wS y s kA oA lA q1 r u q0 f6 (f8 (f7 99999)))
 exact .fy (λ_=>e8) (λ_=>.fy (λ_=>e8) (λ_=>e6 _))
theorem Th(hs:0<=s)(hz:Up kA):∀(n:Nat) (q1 r:Int),0<=r->r<4294967296->4294967296<=r+n*2147483648->Ok (f4 n y s kA oA rA sA lA q1 r):=by
 intro n;induction n with
 |zero=>intro q1 r h0 h1 h2;omega
 |succ n ih=>
  intro q1 r h0 h1 h2;have e5:Ok (f5 (f4 n) y s kA oA rA sA lA q1 r):=by
   show Ok (sk y s kA oA rA sA lA q1 r f3 (f4 n))
   unfold sk;rw[pT (x:=r+kA) (by have:=hz.1;omega) (by have:=hz.2;omega)]
   refine .fy (λ_=>Vn _ _ _ _ _ _ _ _ hs hz) (λh=>ih _ _ (by have:=hz.1;omega) ?_ (by have:=hz.1;omega))
   simpa[bg]using h
  show Ok (l_ y s kA oA rA sA lA q1 r f3 (f5 (f4 n)))
  exact .fy (λ_=>e5) (λ_=>.fy (λ_=>e5) (λ_=>Vn _ _ _ _ _ _ _ _ hs hz))
theorem _p(r:Int)(hs:0<=s)(hz:Up kA):Ok (f4 (99999+1) y s kA oA rA sA lA q1 r):=by
 have e5:Ok (f5 (f4 99999) y s kA oA rA sA lA q1 r):=by
  show Ok (sk y s kA oA rA sA lA q1 r f3 (f4 99999))
  refine .fy (λ_=>Vn _ _ _ _ _ _ _ _ hs hz) (λh=>?_)
  have h:=decide_eq_false_iff_not.1 h;have h0:=(gP.1 (eO (r+kA))).1;exact Th y s kA oA rA sA lA hs hz _ _ _ h0 ab ab
 show Ok (l_ y s kA oA rA sA lA q1 r f3 (f5 (f4 99999)))
 exact .fy (λ_=>e5) (λ_=>.fy (λ_=>e5) (λ_=>Vn _ _ _ _ _ _ _ _ hs hz))
theorem bE(h:(uB hi&&(uB lo&&(uB y&&bz hi y)))=true):Ok (f0 hi lo y):=by
 simp only[aj,gP,bz,decide_eq_true_eq]at h;obtain⟨⟨a0,a1⟩,⟨b0,b1⟩,⟨c0,c1⟩,d⟩:=h;show Ok (cX hi lo y f1)
 unfold cX;rw[Py ab,gy]
 show Ok (dR hi lo y f2)
 unfold dR;rw[Ji ab,gy]
 show Ok (dQ hi lo y (f4 (99999+1)))
 unfold dQ;refine .fy (λ_=>.aU (Pa ab) (.aU (Pa ab) (SZ _ _))) λ_=>?_
 obtain⟨l0,l1,l2,l3⟩:=Qf (y:=y) ab c1;have e1:u64.wrap (rT y)=rT y:=pT l0 ab
 have e2:min (rT y).toNat (IntKind.bits .u64)=(rT y).toNat:=eV (by show _<=64;omega)
 have e3:Int.fdiv (y*2^(rT y).toNat) (2^min (Int.toNat (32:Int)) (IntKind.bits .u64))=y*2^(rT y).toNat/4294967296:=fR _ af
 simp only[e1,e2,pT (x:=y*2^(rT y).toNat) ab l3,e3,iI l0]
 have hz:Up (y*2^(rT y).toNat/4294967296):=⟨ab,ab⟩
 refine .aU (gP.2 ⟨c0,c1⟩) (.aU rfl (.aU rfl (.aU (iI (gP.1 (eO _)).1) (.aU rfl (.aU (Pa (by have:=hz.1;omega)) (_p _ _ _ _ _ _ _ _ _ l0 hz))))))
def P:Int×Int:=Classical.epsilon λa=>f0 hi lo y=some (Wg a)
theorem aw(h:(uB hi&&(uB lo&&(uB y&&bz hi y)))=true):f0 hi lo y=some (.bP [.int .u64 (P hi lo y).1,.int .u64 (P hi lo y).2],[]):=(bE hi lo y h).iJ
def c:Ct:=⟨192,cj (A3 (aK .u64) (aK .u64) (aK .u64) λhi lo y=>(((uB hi&&(uB lo&&(uB y&&bz hi y)))),(.bP [(.int .u64 ((pF.P hi lo y).1)),(.int .u64 ((pF.P hi lo y).2))]))),ir call192 func192 (a3 λhi lo y e_=>(run hi lo y).trans (aw hi lo y e_))⟩
end pF
namespace gd
variable(n:Int)
def X:=dp [] 10
def f0:R:=ai (bz n (0:Int)) (some ((.int .u64 (u64.wrap (0-(u64.wrap n)))),[])) (some (.int .u64 (u64.wrap n),[]))
theorem run:ca X (dG f276) .d (cS [2]) [2] [] [.int .i64 n]=f0 n:=aa
theorem bE:kt qU (λx=>uB x=true) (f0 n):=.fy (λ_=>kt.mk (q:=qU) _ (eO _)) (λ_=>kt.mk (q:=qU) _ (eO _))
def P:Int:=Classical.epsilon λa=>f0 n=some (qU a)/\uB a=true
theorem RY:uB (P n)=true:=(bE n).iJ.2
theorem aw:f0 n=some (.int .u64 (P n),[]):=(bE n).iJ.1
def c:Ct:=⟨276,dU (A1 aI λn=>(.int .u64 (gd.P n))),oS call276 func276 (a1 λn=>(run n).trans (aw n))⟩
end gd
namespace fI
variable(hi lo:Int)(neg:Bool)
def X:=dp [] 19
def fM:Norm U:=⟨[],[19],[],[],[],[],[]⟩
def f0:R:=ai neg (ai (hi !=(0:Int)) (some (.agg [.int .u64 hi,.int .u64 lo,.bool true],[])) (some ((.agg [.int .u64 hi,.int .u64 lo,(.bool (lo !=(0:Int)))]),[]))) (some (.agg [.int .u64 hi,.int .u64 lo,.bool false],[]))
theorem run:gH X (dG f275) .d fM [(6,353)] [19] [] [.int .u64 hi,.int .u64 lo,.bool neg]=f0 hi lo neg:=aa
theorem bE(h:(uB hi&&uB lo)=true):kt qN (λa=>jJ a=true) (f0 hi lo neg):=by obtain⟨h1,h2⟩:=aZ.1 h;unfold f0;repeat' first|exact zz h1 h2|(refine Is.fy (λ_=>?_) (λ_=>?_))
def P:Num:=Classical.epsilon λa=>f0 hi lo neg=some (qN a)/\jJ a=true
theorem vd{hi lo:Int}(neg:Bool)(h1:uB hi=true)(h2:uB lo=true):jJ (P hi lo neg)=true:=(bE hi lo neg (eN h1 h2)).iJ.2
theorem aw(h:(uB hi&&uB lo)=true):f0 hi lo neg=some (.agg [.int .u64 (P hi lo neg).hhi,.int .u64 (P hi lo neg).gr,.bool (P hi lo neg).hneg],[]):=(bE hi lo neg h).iJ.1
theorem ok:bp prog X:=fV lq (ss _) pD
theorem jE:kZ prog X:=λg sp h=>by cases h
theorem spec(h:((uB hi&&uB lo))=true):cV prog E 275 [(.int .u64 hi),(.int .u64 lo),(.bool neg)] (.agg [(.int .u64 (((fI.P hi lo neg)).hhi)),(.int .u64 (((fI.P hi lo neg)).gr)),(.bool (((fI.P hi lo neg)).hneg))]) []:=cR ok jE call275 func275 aa aa aa (by show 3<=19;decide) af (by rfl) ((run hi lo neg).trans (aw hi lo neg h))
def sp:Sp U El:=λargs k=>match args with
 |[.int .u64 hi,.int .u64 lo,.bool neg]=>aU (uB hi&&uB lo) (k (.agg [(.int .u64 ((fI.P hi lo neg).hhi)),(.int .u64 ((fI.P hi lo neg).gr)),(.bool ((fI.P hi lo neg).hneg))]) [])
 |_=>none
theorem du:gQ prog E 275 sp where
 pe:=λvs=>by
  unfold sp;split
  ·exact kK _ _ _
  ·exact⟨none,λ_=>rfl⟩
 ok:=λvs k r h=>by
  unfold sp at h;split at h
  ·obtain⟨h1,h2⟩:=aQ h;exact⟨_,_,.inl (spec _ _ _ h1),h2⟩
  ·cases h
end fI
namespace uD
variable(a:pa)
def X:=dp [] 21
def f0:R:=ai (bg (-1152921504606846976:Int) a.vg) (ai (bz a.vg (1152921504606846976:Int)) (ai (bg (0:Int) a.wG) (aq (bz a.wG (1152921504606846976:Int))) (aq false)) (aq false)) (aq false)
theorem run:ca X (dG f278) .d (cS [2]) [2] [] [eA .wide a]=f0 a:=aa
theorem bE:jF qB (f0 a):=by unfold f0;repeat' first|exact okB _|(refine Is.fy (λ_=>?_) (λ_=>?_))
def P:Bool:=Classical.epsilon λx=>f0 a=some (qB x)
theorem aw:f0 a=aq (P a):=(bE a).iJ
def c:Ct:=⟨278,dU (A1 (aR .wide) λa=>(.bool (uD.P a))),oS call278 func278 (a1 λa=>(run a).trans (aw a))⟩
end uD
namespace gN
variable(a:pa)
def X:=dp [gd.c,⟨336,Dr.sp,Dr.du⟩] 37
def fM:Norm U:=⟨[],[37],[],[],[],[],[]⟩
def f0:R:=ai (bg (0:Int) a.vg) (some ((.agg [(.int .u64 (Int.fdiv (gd.P a.vg) (2^min (Int.toNat (4:Int)) (IntKind.bits .u64)))),(.int .u64 (ub .u64 (u64.wrap ((gd.P a.vg)*2^min (Int.toNat (60:Int)) (IntKind.bits .u64))) (u64.wrap a.wG))),.bool false]),[])) (aU ((uB (u64.wrap ((gd.P a.vg)*2^min (Int.toNat (60:Int)) (IntKind.bits .u64)))&&(uB (u64.wrap a.wG)&&(bg 0 (0:Int)&&bg (0:Int) 1)))) (some ((.agg [(.int .u64 (u64.wrap ((Int.fdiv (gd.P a.vg) (2^min (Int.toNat (4:Int)) (IntKind.bits .u64)))-(Cd (u64.wrap ((gd.P a.vg)*2^min (Int.toNat (60:Int)) (IntKind.bits .u64))) (u64.wrap a.wG) (0:Int))))),(.int .u64 (AX (u64.wrap ((gd.P a.vg)*2^min (Int.toNat (60:Int)) (IntKind.bits .u64))) (u64.wrap a.wG) (0:Int))),.bool true]),[])))
theorem run:gH X (dG f280) .d fM [(2,353)] [37] [] [.agg [.int .i64 a.vg,.int .i64 a.wG]]=f0 a:=aa
theorem bE:kt qN (λa=>jJ a=true) (f0 a):=by
 refine .fy (λ_=>zz (PL (gd.RY _) af) (eO _)) λ_=>.aU ?_ (zz (eO _) (B_ _ _ _))
 rw[eO,eO];rfl
def P:Num:=Classical.epsilon λx=>f0 a=some (qN x)/\jJ x=true
theorem vd:jJ (P a)=true:=(bE a).iJ.2
theorem aw:f0 a=some (.agg [.int .u64 (P a).hhi,.int .u64 (P a).gr,.bool (P a).hneg],[]):=(bE a).iJ.1
theorem ok:bp prog X:=fV lq (ss _) pD
theorem jE:kZ prog X:=λg sp h=>by cases h
theorem spec:cV prog E 280 [(.agg [(.int .i64 a.vg),(.int .i64 a.wG)])] (.agg [(.int .u64 (((gN.P a)).hhi)),(.int .u64 (((gN.P a)).gr)),(.bool (((gN.P a)).hneg))]) []:=cR ok jE call280 func280 aa aa aa (by show 1<=37;decide) af (by rfl) ((run a).trans (aw a))
def sp:Sp U El:=λargs k=>match args with
 |[.agg [.int .i64 AD,.int .i64 AB]]=>k (.agg [(.int .u64 (((gN.P (⟨AD,AB⟩:pa))).hhi)),(.int .u64 (((gN.P (⟨AD,AB⟩:pa))).gr)),(.bool (((gN.P (⟨AD,AB⟩:pa))).hneg))]) []
 |_=>none
theorem du:gQ prog E 280 sp where
 pe:=λvs=>by
  unfold sp;split
  ·exact⟨some (_,_),λ_=>rfl⟩
  ·exact⟨none,λ_=>rfl⟩
 ok:=λvs k r h=>by
  unfold sp at h;split at h
  ·exact⟨_,_,.inl (spec ⟨_,_⟩),h⟩
  ·cases h
end gN
namespace jh
variable(b1 a:Num)
def X:=dp [] 56
def bd:=dG f274
def fM:Norm U:=⟨[],[56,3],[],[],[],[],[]⟩
def RR:bn U El:=λst=>fz X 56 [(2,288)] 56 st λst=>cN fM st (ch [56,3] [])
def an:gb U:=(.seq none .d (.seq (some (⟨[],[1,2],[1,2],[],[],[],[]⟩)) .d .d))
abbrev Y1:=Num->Int->Int->R
def cX(k1:Y1):R:=ai (bz (72057594037927936:Int) a.hhi) (some ((.bP [(.agg [.int .i64 (0:Int),.int .i64 (0:Int)]),.int .i64 (5:Int)]),[])) (ai (a.hhi==(72057594037927936:Int)) (ai (bz (0:Int) a.gr) (some ((.bP [(.agg [.int .i64 (0:Int),.int .i64 (0:Int)]),.int .i64 (5:Int)]),[])) (ai (!a.hneg) (some ((.bP [(.agg [.int .i64 (0:Int),.int .i64 (0:Int)]),.int .i64 (5:Int)]),[])) (k1 a (0:Int) (0:Int)))) (k1 a (0:Int) (0:Int)))
def dR(tA uA:Int):R:=ai (!b1.hneg) (some ((.bP [(.agg [(.int .i64 (i64.wrap (ub .u64 (u64.wrap (b1.hhi*2^min (Int.toNat (4:Int)) (IntKind.bits .u64))) (Int.fdiv b1.gr (2^min (Int.toNat (60:Int)) (IntKind.bits .u64)))))),(.int .i64 (i64.wrap (MD .u64 b1.gr (1152921504606846975:Int))))]),.int .i64 (0:Int)]),[])) (ai ((i64.wrap (MD .u64 b1.gr (1152921504606846975:Int)))==(0:Int)) (some ((.bP [(.agg [(.int .i64 (i64.wrap (0-(i64.wrap (ub .u64 (u64.wrap (b1.hhi*2^min (Int.toNat (4:Int)) (IntKind.bits .u64))) (Int.fdiv b1.gr (2^min (Int.toNat (60:Int)) (IntKind.bits .u64)))))))),.int .i64 (0:Int)]),.int .i64 (0:Int)]),[])) (some ((.bP [(.agg [(.int .i64 (i64.wrap ((i64.wrap (0-(i64.wrap (ub .u64 (u64.wrap (b1.hhi*2^min (Int.toNat (4:Int)) (IntKind.bits .u64))) (Int.fdiv b1.gr (2^min (Int.toNat (60:Int)) (IntKind.bits .u64)))))))-(1:Int)))),(.int .i64 (i64.wrap ((1152921504606846976:Int)-(i64.wrap (MD .u64 b1.gr (1152921504606846975:Int))))))]),.int .i64 (0:Int)]),[])))
abbrev ex:=kf X bd an RR
def cQ:=ex [1,1] RR nE
def f1(tA uA:Int):R:=dR b1 tA uA
def f0:R:=cX a f1
theorem E1:(λb1 tA uA=>(hid cQ) ⟨[(1,.ptr 1 0),(2,.ptr 2 0)],[(1,.box 0 [.int .u64 b1.hhi,.int .u64 b1.gr,.bool b1.hneg]),(2,.box 0 [.int .i64 tA,.int .i64 uA])]⟩)=f1:=by funext b1 tA uA;refine cm ?_;unfold f1;exact aa
theorem run:gH X bd an fM [(2,288)] [56,3] [] [.agg [.int .u64 a.hhi,.int .u64 a.gr,.bool a.hneg]]=f0 a:=by unfold f0;rw[<-E1];exact aa
theorem bE:jF JX (f0 a):=by
 have e:∀x y z,jF JX (f1 x y z):=λx y z=>by
  show jF JX (dR x y z)
  unfold dR;repeat' first|exact I7 _ _ _|(refine Is.fy (λ_=>?_) (λ_=>?_))
 show jF JX (cX a f1)
 unfold cX;repeat' first|exact I7 _ _ _|exact e _ _ _|(refine Is.fy (λ_=>?_) (λ_=>?_))
def P:pa×Int:=Classical.epsilon λx=>f0 a=some (JX x)
theorem aw:f0 a=some (.bP [.agg [.int .i64 (P a).1.vg,.int .i64 (P a).1.wG],.int .i64 (P a).2],[]):=(bE a).iJ
theorem ok:bp prog X:=fV lq (ss _) pD
theorem jE:kZ prog X:=λg sp h=>by cases h
theorem spec:cV prog E 274 [(.agg [(.int .u64 a.hhi),(.int .u64 a.gr),(.bool a.hneg)])] (.bP [(.agg [(.int .i64 (((jh.P a).1).vg)),(.int .i64 (((jh.P a).1).wG))]),(.int .i64 ((jh.P a).2))]) []:=cR ok jE call274 func274 aa aa aa (by show 1<=56;decide) af (by rfl) ((run a).trans (aw a))
def sp:Sp U El:=λargs k=>match args with
 |[.agg [.int .u64 ri,.int .u64 rh,.bool oc]]=>k (.bP [(.agg [(.int .i64 (((jh.P (⟨ri,rh,oc⟩:Num)).1).vg)),(.int .i64 (((jh.P (⟨ri,rh,oc⟩:Num)).1).wG))]),(.int .i64 ((jh.P (⟨ri,rh,oc⟩:Num)).2))]) []
 |_=>none
theorem du:gQ prog E 274 sp where
 pe:=λvs=>by
  unfold sp;split
  ·exact⟨some (_,_),λ_=>rfl⟩
  ·exact⟨none,λ_=>rfl⟩
 ok:=λvs k r h=>by
  unfold sp at h;split at h
  ·exact⟨_,_,.inl (spec ⟨_,_,_⟩),h⟩
  ·cases h
end jh
namespace pg
variable(n:Int)(neg:Bool)
def X:=dp [] 24
def bd:=dG f281
def RR:bn U El:=λst=>cN (cS [4,5]) st (ch [4,5] [])
def an:gb U:=(.seq none .d (.seq (some (cS [])) .d .d))
abbrev Y1:=R
def cX(k1:Y1):R:=ai (!neg) (ai (bg n (9223372036854775807:Int)) (some ((.bP [.int .i64 (i64.wrap n),.int .i64 (0:Int)]),[])) (ai neg (ai (bg n (9223372036854775808:Int)) (some ((.bP [(.int .i64 (i64.wrap (u64.wrap (0-n)))),.int .i64 (0:Int)]),[])) (k1)) (k1))) (ai neg (ai (bg n (9223372036854775808:Int)) (some ((.bP [(.int .i64 (i64.wrap (u64.wrap (0-n)))),.int .i64 (0:Int)]),[])) (k1)) (k1))
def dR:R:=some ((.bP [.int .i64 (0:Int),.int .i64 (5:Int)]),[])
abbrev ex:=kf X bd an RR
def cQ:=ex [1,1] RR nE
def f1:R:=dR
def f0:R:=cX n neg f1
theorem E1:((hid cQ) ⟨[],[]⟩)=f1:=by refine cm ?_;unfold f1;exact aa
theorem run:ca X bd an (cS [4,5]) [4,5] [] [.int .u64 n,.bool neg]=f0 n neg:=by unfold f0;rw[<-E1];exact aa
theorem bE:jF kX (f0 n neg):=by
 have e:jF kX f1:=j3 _ _;show jF kX (cX n neg f1)
 unfold cX;repeat' first|exact j3 _ _|exact e|(refine Is.fy (λ_=>?_) (λ_=>?_))
def P:Int×Int:=Classical.epsilon λx=>f0 n neg=some (kX x)
theorem aw:f0 n neg=some (.bP [.int .i64 (P n neg).1,.int .i64 (P n neg).2],[]):=(bE n neg).iJ
def c:Ct:=⟨281,dU (A2 (aK .u64) aB λn neg=>(.bP [(.int .i64 ((pg.P n neg).1)),(.int .i64 ((pg.P n neg).2))])),oS call281 func281 (a2 λn neg=>(run n neg).trans (aw n neg))⟩
end pg
namespace Kk
variable(a:pa)
def X:=dp [uD.c,⟨280,gN.sp,gN.du⟩,pg.c] 20
def f0:R:=ai (!(uD.P a)) (some ((.bP [.int .i64 (0:Int),.int .i64 (1:Int)]),[])) (ai (bz (0:Int) ((gN.P a).hhi)) (some ((.bP [.int .i64 (0:Int),.int .i64 (5:Int)]),[])) (some ((.bP [(.int .i64 ((pg.P ((gN.P a).gr) ((gN.P a).hneg)).1)),(.int .i64 ((pg.P ((gN.P a).gr) ((gN.P a).hneg)).2))]),[])))
theorem run:ca X (dG f215) .d (cS [2,3]) [2,3] [] [eA .wide a]=f0 a:=aa
theorem bE:jF kX (f0 a):=by unfold f0;repeat' first|exact j3 _ _|(refine Is.fy (λ_=>?_) (λ_=>?_))
def P:Int×Int:=Classical.epsilon λx=>f0 a=some (kX x)
theorem aw:f0 a=some (.bP [.int .i64 (P a).1,.int .i64 (P a).2],[]):=(bE a).iJ
def c:Ct:=⟨215,dU (A1 (aR .wide) λa=>(.bP [(.int .i64 ((Kk.P a).1)),(.int .i64 ((Kk.P a).2))])),oS call215 func215 (a1 λa=>(run a).trans (aw a))⟩
end Kk
namespace xO
variable(b2 b3 a b:Num)
def X:=dp [⟨275,fI.sp,fI.du⟩,⟨335,MI.sp,MI.du⟩,⟨336,Dr.sp,Dr.du⟩] 73
def bd:=dG f279
def fM:Norm U:=⟨[],[73],[],[],[],[],[]⟩
def RR:bn U El:=λst=>fz X 73 [(4,353)] 73 st λst=>cN fM st (ch [73] [])
def an:gb U:=(.seq none .d (.seq none .d (.seq (some (⟨[],[2,3,4],[2,3,4],[],[],[],[]⟩)) .d .d)))
abbrev Y1:=Num->Num->Int->Int->Bool->R
def cX(k1:Y1):R:=ai (a.hneg==b.hneg) (aU ((uB a.gr&&(uB b.gr&&(bg 0 (0:Int)&&bg (0:Int) 1)))) (aU ((uB (u64.wrap ((u64.wrap (a.hhi+b.hhi))+(Fb a.gr b.gr (0:Int))))&&uB (C6 a.gr b.gr (0:Int)))) (some ((.agg [(.int .u64 (((fI.P (u64.wrap ((u64.wrap (a.hhi+b.hhi))+(Fb a.gr b.gr (0:Int)))) (C6 a.gr b.gr (0:Int)) a.hneg)).hhi)),(.int .u64 (((fI.P (u64.wrap ((u64.wrap (a.hhi+b.hhi))+(Fb a.gr b.gr (0:Int)))) (C6 a.gr b.gr (0:Int)) a.hneg)).gr)),(.bool (((fI.P (u64.wrap ((u64.wrap (a.hhi+b.hhi))+(Fb a.gr b.gr (0:Int)))) (C6 a.gr b.gr (0:Int)) a.hneg)).hneg))]),[])))) (ai (bz a.hhi b.hhi) (k1 b a (0:Int) (0:Int) false) (ai (a.hhi==b.hhi) (ai (bz a.gr b.gr) (k1 b a (0:Int) (0:Int) false) (k1 a b (0:Int) (0:Int) false)) (k1 a b (0:Int) (0:Int) false)))
def dR(mA nA:Int)(vA:Bool):R:=aU ((uB b2.gr&&(uB b3.gr&&(bg 0 (0:Int)&&bg (0:Int) 1)))) (aU ((uB (u64.wrap ((u64.wrap (b2.hhi-b3.hhi))-(Cd b2.gr b3.gr (0:Int))))&&uB (AX b2.gr b3.gr (0:Int)))) (some ((.agg [(.int .u64 (((fI.P (u64.wrap ((u64.wrap (b2.hhi-b3.hhi))-(Cd b2.gr b3.gr (0:Int)))) (AX b2.gr b3.gr (0:Int)) b2.hneg)).hhi)),(.int .u64 (((fI.P (u64.wrap ((u64.wrap (b2.hhi-b3.hhi))-(Cd b2.gr b3.gr (0:Int)))) (AX b2.gr b3.gr (0:Int)) b2.hneg)).gr)),(.bool (((fI.P (u64.wrap ((u64.wrap (b2.hhi-b3.hhi))-(Cd b2.gr b3.gr (0:Int)))) (AX b2.gr b3.gr (0:Int)) b2.hneg)).hneg))]),[])))
abbrev ex:=kf X bd an RR
def cQ:=ex [1,1,1] RR nE
def f1(mA nA:Int)(vA:Bool):R:=dR b2 b3 mA nA vA
def f0:R:=cX a b f1
theorem E1:(λb2 b3 mA nA vA=>(hid cQ) ⟨[(2,.ptr 2 0),(3,.ptr 3 0),(4,.ptr 4 0)],[(2,.box 0 [.int .u64 b2.hhi,.int .u64 b2.gr,.bool b2.hneg]),(3,.box 0 [.int .u64 b3.hhi,.int .u64 b3.gr,.bool b3.hneg]),(4,.box 0 [.int .u64 mA,.int .u64 nA,.bool vA])]⟩)=f1:=by funext b2 b3 mA nA vA;refine cm ?_;unfold f1;exact aa
theorem run:gH X bd an fM [(4,353)] [73] [] [.agg [.int .u64 a.hhi,.int .u64 a.gr,.bool a.hneg],.agg [.int .u64 b.hhi,.int .u64 b.gr,.bool b.hneg]]=f0 a b:=by unfold f0;rw[<-E1];exact aa
theorem bE(h:(jJ a&&jJ b)=true):kt qN (λa=>jJ a=true) (f0 a b):=by
 obtain⟨h1,h2⟩:=aZ.1 h;have e:∀a b x y z,jJ a=true->jJ b=true->kt qN (λa=>jJ a=true) (f1 a b x y z):=λa b x y z h1 h2=>by
  obtain⟨a1,a2⟩:=mf.1 h1;obtain⟨b1,b2⟩:=mf.1 h2;have hs:=fI.vd a.hneg (eO (u64.wrap (a.hhi-b.hhi)-Cd a.gr b.gr 0)) (B_ a.gr b.gr 0)
  obtain⟨s1,s2⟩:=mf.1 hs;exact .aU (by rw[a2,b2];rfl) (.aU (eN (eO _) (B_ _ _ _)) (zz s1 s2))
 obtain⟨a1,a2⟩:=mf.1 h1;obtain⟨b1,b2⟩:=mf.1 h2;obtain⟨s1,s2⟩:=mf.1 (fI.vd a.hneg (eO (u64.wrap (a.hhi+b.hhi)+Fb a.gr b.gr 0)) (Ha a.gr b.gr 0))
 refine .fy (λ_=>.aU (by rw[a2,b2];rfl) (.aU (eN (eO _) (Ha _ _ _)) (zz s1 s2))) λ_=>.fy (λ_=>e _ _ _ _ _ h2 h1) λ_=>.fy (λ_=>.fy (λ_=>e _ _ _ _ _ h2 h1) λ_=>e _ _ _ _ _ h1 h2) λ_=>e _ _ _ _ _ h1 h2
def P:Num:=Classical.epsilon λx=>f0 a b=some (qN x)/\jJ x=true
theorem aw(h:(jJ a&&jJ b)=true):f0 a b=some (.agg [.int .u64 (P a b).hhi,.int .u64 (P a b).gr,.bool (P a b).hneg],[]):=(bE a b h).iJ.1
theorem ok:bp prog X:=fV lq (ss _) pD
theorem jE:kZ prog X:=λg sp h=>by cases h
theorem spec(h:((jJ a&&jJ b))=true):cV prog E 279 [(.agg [(.int .u64 a.hhi),(.int .u64 a.gr),(.bool a.hneg)]),(.agg [(.int .u64 b.hhi),(.int .u64 b.gr),(.bool b.hneg)])] (.agg [(.int .u64 (((xO.P a b)).hhi)),(.int .u64 (((xO.P a b)).gr)),(.bool (((xO.P a b)).hneg))]) []:=cR ok jE call279 func279 aa aa aa (by show 2<=73;decide) af (by rfl) ((run a b).trans (aw a b h))
def sp:Sp U El:=λargs k=>match args with
 |[.agg [.int .u64 ri,.int .u64 rh,.bool oc],.agg [.int .u64 Iu,.int .u64 It,.bool C3]]=>aU ((jJ (⟨ri,rh,oc⟩:Num)&&jJ (⟨Iu,It,C3⟩:Num))) (k (.agg [(.int .u64 (((xO.P (⟨ri,rh,oc⟩:Num) (⟨Iu,It,C3⟩:Num))).hhi)),(.int .u64 (((xO.P (⟨ri,rh,oc⟩:Num) (⟨Iu,It,C3⟩:Num))).gr)),(.bool (((xO.P (⟨ri,rh,oc⟩:Num) (⟨Iu,It,C3⟩:Num))).hneg))]) [])
 |_=>none
theorem du:gQ prog E 279 sp where
 pe:=λvs=>by
  unfold sp;split
  ·exact kK _ _ _
  ·exact⟨none,λ_=>rfl⟩
 ok:=λvs k r h=>by
  unfold sp at h;split at h
  ·obtain⟨h1,h2⟩:=aQ h;exact⟨_,_,.inl (spec ⟨_,_,_⟩ ⟨_,_,_⟩ h1),h2⟩
  ·cases h
end xO
namespace mU
variable(a:Num)
def X:=dp [⟨275,fI.sp,fI.du⟩] 11
def fM:Norm U:=⟨[],[11],[],[],[],[],[]⟩
def f0:R:=aU (uB a.hhi&&uB a.gr) (some ((.agg [(.int .u64 ((fI.P a.hhi a.gr (!a.hneg)).hhi)),(.int .u64 ((fI.P a.hhi a.gr (!a.hneg)).gr)),(.bool ((fI.P a.hhi a.gr (!a.hneg)).hneg))]),[]))
theorem run:gH X (dG f496) .d fM [(2,353)] [11] [] [.agg [.int .u64 a.hhi,.int .u64 a.gr,.bool a.hneg]]=f0 a:=aa
theorem bE(h:jJ a=true):kt qN (λa=>jJ a=true) (f0 a):=by
 obtain⟨a1,a2⟩:=mf.1 h;obtain⟨s1,s2⟩:=mf.1 (fI.vd (!a.hneg) a1 a2)
 exact .aU (eN a1 a2) (zz s1 s2)
def P:Num:=Classical.epsilon λx=>f0 a=some (qN x)/\jJ x=true
theorem vd{a:Num}(h:jJ a=true):jJ (P a)=true:=(bE a h).iJ.2
theorem aw(h:jJ a=true):f0 a=some (.agg [.int .u64 (P a).hhi,.int .u64 (P a).gr,.bool (P a).hneg],[]):=(bE a h).iJ.1
theorem ok:bp prog X:=fV lq (ss _) pD
theorem jE:kZ prog X:=λg sp h=>by cases h
theorem spec(h:(jJ a)=true):cV prog E 496 [(.agg [(.int .u64 a.hhi),(.int .u64 a.gr),(.bool a.hneg)])] (.agg [(.int .u64 (((mU.P a)).hhi)),(.int .u64 (((mU.P a)).gr)),(.bool (((mU.P a)).hneg))]) []:=cR ok jE call496 func496 aa aa aa (by show 1<=11;decide) af (by rfl) ((run a).trans (aw a h))
def sp:Sp U El:=λargs k=>match args with
 |[.agg [.int .u64 ri,.int .u64 rh,.bool oc]]=>aU (jJ (⟨ri,rh,oc⟩:Num)) (k (.agg [(.int .u64 (((mU.P (⟨ri,rh,oc⟩:Num))).hhi)),(.int .u64 (((mU.P (⟨ri,rh,oc⟩:Num))).gr)),(.bool (((mU.P (⟨ri,rh,oc⟩:Num))).hneg))]) [])
 |_=>none
theorem du:gQ prog E 496 sp where
 pe:=λvs=>by
  unfold sp;split
  ·exact kK _ _ _
  ·exact⟨none,λ_=>rfl⟩
 ok:=λvs k r h=>by
  unfold sp at h;split at h
  ·obtain⟨h1,h2⟩:=aQ h;exact⟨_,_,.inl (spec ⟨_,_,_⟩ h1),h2⟩
  ·cases h
end mU
namespace AW
variable(b2 b3 a b:pa)
def X:=dp [⟨274,jh.sp,jh.du⟩,uD.c,⟨279,xO.sp,xO.du⟩,⟨280,gN.sp,gN.du⟩,⟨496,mU.sp,mU.du⟩] 24
def bd:=dG f493
def fM:Norm U:=⟨[],[24,5],[],[],[],[],[]⟩
def RR:bn U El:=λst=>fz X 24 [(4,288)] 24 st λst=>cN fM st (ch [24,5] [])
def an:gb U:=(.seq none .d (.seq (some (⟨[],[2,3,4],[2,3,4],[],[],[],[]⟩)) .d (.seq none (.region [(9,4)]) .d)))
abbrev Y1:=pa->pa->Int->Int->R
def cX(k1:Y1):R:=ai (!(uD.P a)) (some ((.bP [(.agg [.int .i64 (0:Int),.int .i64 (0:Int)]),.int .i64 (1:Int)]),[])) (ai (!(uD.P b)) (some ((.bP [(.agg [.int .i64 (0:Int),.int .i64 (0:Int)]),.int .i64 (1:Int)]),[])) (k1 a b (0:Int) (0:Int)))
def dR(mA nA:Int):R:=aU (jJ (gN.P b3)) (aU ((jJ (gN.P b2)&&jJ (mU.P (gN.P b3)))) (some ((.bP [(.agg [(.int .i64 (((jh.P ((xO.P (gN.P b2) (mU.P (gN.P b3))))).1).vg)),(.int .i64 (((jh.P ((xO.P (gN.P b2) (mU.P (gN.P b3))))).1).wG))]),(.int .i64 ((jh.P ((xO.P (gN.P b2) (mU.P (gN.P b3))))).2))]),[])))
abbrev ex:=kf X bd an RR
def cQ:=ex [1,1] RR nE
def f1(mA nA:Int):R:=dR b2 b3 mA nA
def f0:R:=cX a b f1
theorem E1:(λb2 b3 mA nA=>(hid cQ) ⟨[(2,.ptr 2 0),(3,.ptr 3 0),(4,.ptr 4 0)],[(2,.box 0 [.int .i64 b2.vg,.int .i64 b2.wG]),(3,.box 0 [.int .i64 b3.vg,.int .i64 b3.wG]),(4,.box 0 [.int .i64 mA,.int .i64 nA])]⟩)=f1:=by funext b2 b3 mA nA;refine cm ?_;unfold f1;exact aa
theorem run:gH X bd an fM [(4,288)] [24,5] [] [.agg [.int .i64 a.vg,.int .i64 a.wG],.agg [.int .i64 b.vg,.int .i64 b.wG]]=f0 a b:=by unfold f0;rw[<-E1];exact aa
theorem bE:jF JX (f0 a b):=by
 have e:∀a b x y,jF JX (f1 a b x y):=λa b x y=>
  .aU (gN.vd _) (.aU (eN (gN.vd _) (mU.vd (gN.vd _))) (I7 _ _ _))
 exact .fy (λ_=>I7 _ _ _) λ_=>.fy (λ_=>I7 _ _ _) λ_=>e _ _ _ _
def P:pa×Int:=Classical.epsilon λx=>f0 a b=some (JX x)
theorem aw:f0 a b=some (.bP [.agg [.int .i64 (P a b).1.vg,.int .i64 (P a b).1.wG],.int .i64 (P a b).2],[]):=(bE a b).iJ
theorem ok:bp prog X:=fV lq (ss _) pD
theorem jE:kZ prog X:=λg sp h=>by cases h
theorem spec:cV prog E 493 [(.agg [(.int .i64 a.vg),(.int .i64 a.wG)]),(.agg [(.int .i64 b.vg),(.int .i64 b.wG)])] (.bP [(.agg [(.int .i64 (((AW.P a b).1).vg)),(.int .i64 (((AW.P a b).1).wG))]),(.int .i64 ((AW.P a b).2))]) []:=cR ok jE call493 func493 aa aa aa (by show 2<=24;decide) af (by rfl) ((run a b).trans (aw a b))
def sp:Sp U El:=λargs k=>match args with
 |[.agg [.int .i64 AD,.int .i64 AB],.agg [.int .i64 My,.int .i64 Mx]]=>k (.bP [(.agg [(.int .i64 (((AW.P (⟨AD,AB⟩:pa) (⟨My,Mx⟩:pa)).1).vg)),(.int .i64 (((AW.P (⟨AD,AB⟩:pa) (⟨My,Mx⟩:pa)).1).wG))]),(.int .i64 ((AW.P (⟨AD,AB⟩:pa) (⟨My,Mx⟩:pa)).2))]) []
 |_=>none
theorem du:gQ prog E 493 sp where
 pe:=λvs=>by
  unfold sp;split
  ·exact⟨some (_,_),λ_=>rfl⟩
  ·exact⟨none,λ_=>rfl⟩
 ok:=λvs k r h=>by
  unfold sp at h;split at h
  ·exact⟨_,_,.inl (spec ⟨_,_⟩ ⟨_,_⟩),h⟩
  ·cases h
end AW
namespace iS
variable(a b:Int)
def X:=dp [⟨191,oC.sp,oC.du⟩,⟨275,fI.sp,fI.du⟩,gd.c] 23
def fM:Norm U:=⟨[],[23],[],[],[],[],[]⟩
def f0:R:=aU (uB (gd.P a)&&uB (gd.P b)) (aU ((uB (mH (gd.P a) (gd.P b))&&uB (oW (gd.P a) (gd.P b)))) (some ((.agg [(.int .u64 (((fI.P (mH (gd.P a) (gd.P b)) (oW (gd.P a) (gd.P b)) (!((bz a (0:Int))==(bz b (0:Int)))))).hhi)),(.int .u64 (((fI.P (mH (gd.P a) (gd.P b)) (oW (gd.P a) (gd.P b)) (!((bz a (0:Int))==(bz b (0:Int)))))).gr)),(.bool (((fI.P (mH (gd.P a) (gd.P b)) (oW (gd.P a) (gd.P b)) (!((bz a (0:Int))==(bz b (0:Int)))))).hneg))]),[])))
theorem run:gH X (dG f277) .d fM [(4,353)] [23] [] [.int .i64 a,.int .i64 b]=f0 a b:=aa
theorem bE:kt qN (λa=>jJ a=true) (f0 a b):=by
 have h1:=vr (gd.RY a) (gd.RY b)
 obtain⟨s1,s2⟩:=mf.1 (fI.vd (!((bz a (0:Int))==(bz b (0:Int)))) h1 (ph _ _))
 exact .aU (eN (gd.RY _) (gd.RY _)) (.aU (eN h1 (ph _ _)) (zz s1 s2))
def P:Num:=Classical.epsilon λx=>f0 a b=some (qN x)/\jJ x=true
theorem vd:jJ (P a b)=true:=(bE a b).iJ.2
theorem aw:f0 a b=some (.agg [.int .u64 (P a b).hhi,.int .u64 (P a b).gr,.bool (P a b).hneg],[]):=(bE a b).iJ.1
theorem ok:bp prog X:=fV lq (ss _) pD
theorem jE:kZ prog X:=λg sp h=>by cases h
theorem spec:cV prog E 277 [(.int .i64 a),(.int .i64 b)] (.agg [(.int .u64 (((iS.P a b)).hhi)),(.int .u64 (((iS.P a b)).gr)),(.bool (((iS.P a b)).hneg))]) []:=cR ok jE call277 func277 aa aa aa (by show 2<=23;decide) af (by rfl) ((run a b).trans (aw a b))
def sp:Sp U El:=λargs k=>match args with
 |[.int .i64 a,.int .i64 b]=>k (.agg [(.int .u64 ((iS.P a b).hhi)),(.int .u64 ((iS.P a b).gr)),(.bool ((iS.P a b).hneg))]) []
 |_=>none
theorem du:gQ prog E 277 sp where
 pe:=λvs=>by
  unfold sp;split
  ·exact⟨some (_,_),λ_=>rfl⟩
  ·exact⟨none,λ_=>rfl⟩
 ok:=λvs k r h=>by
  unfold sp at h;split at h
  ·exact⟨_,_,.inl (spec _ _),h⟩
  ·cases h
end iS
namespace lp
variable(a b:Int)
def X:=dp [⟨274,jh.sp,jh.du⟩,⟨277,iS.sp,iS.du⟩] 12
def fM:Norm U:=⟨[],[12,5],[],[],[],[],[]⟩
def f0:R:=some ((.bP [(.agg [(.int .i64 (((jh.P (iS.P a b)).1).vg)),(.int .i64 (((jh.P (iS.P a b)).1).wG))]),(.int .i64 ((jh.P (iS.P a b)).2))]),[])
theorem run:gH X (dG f213) .d fM [(4,288)] [12,5] [] [.int .i64 a,.int .i64 b]=f0 a b:=aa
def P:pa×Int:=Classical.epsilon λx=>f0 a b=some (JX x)
theorem aw:f0 a b=some (.bP [.agg [.int .i64 (P a b).1.vg,.int .i64 (P a b).1.wG],.int .i64 (P a b).2],[]):=(show jF JX (f0 a b)from I7 _ _ _).iJ
theorem ok:bp prog X:=fV lq (ss _) pD
theorem jE:kZ prog X:=λg sp h=>by cases h
theorem spec:cV prog E 213 [(.int .i64 a),(.int .i64 b)] (.bP [(.agg [(.int .i64 (((lp.P a b).1).vg)),(.int .i64 (((lp.P a b).1).wG))]),(.int .i64 ((lp.P a b).2))]) []:=cR ok jE call213 func213 aa aa aa (by show 2<=12;decide) af (by rfl) ((run a b).trans (aw a b))
def sp:Sp U El:=λargs k=>match args with
 |[.int .i64 a,.int .i64 b]=>k (.bP [(.agg [(.int .i64 (((lp.P a b).1).vg)),(.int .i64 (((lp.P a b).1).wG))]),(.int .i64 ((lp.P a b).2))]) []
 |_=>none
theorem du:gQ prog E 213 sp where
 pe:=λvs=>by
  unfold sp;split
  ·exact⟨some (_,_),λ_=>rfl⟩
  ·exact⟨none,λ_=>rfl⟩
 ok:=λvs k r h=>by
  unfold sp at h;split at h
  ·exact⟨_,_,.inl (spec _ _),h⟩
  ·cases h
end lp
namespace uo
variable(a:Num)(b:Int)(up:Bool)
def X:=dp [pF.c,gd.c,pg.c] 52
def bd:=dG f363
def RR:bn U El:=λst=>cN (cS [6,7]) st (ch [6,7] [])
def an:gb U:=(.seq none .d (.seq none .d (.seq none .d (.seq none .d (.seq none .d (.seq (some (cS [9,11])) .d .d))))))
abbrev Y1:=Int->Bool->R
def cX(k1:Y1):R:=ai (bg (gd.P b) a.hhi) (some ((.bP [.int .i64 (0:Int),.int .i64 (5:Int)]),[])) (aU ((uB a.hhi&&(uB a.gr&&(uB (gd.P b)&&bz a.hhi (gd.P b))))) (ai (bz (0:Int) ((pF.P a.hhi a.gr (gd.P b)).2)) (ai (!((!(a.hneg==(bz b (0:Int))))==up)) (ai ((u64.wrap (((pF.P a.hhi a.gr (gd.P b)).1)+(1:Int)))==(0:Int)) (some ((.bP [.int .i64 (0:Int),.int .i64 (5:Int)]),[])) (k1 (u64.wrap (((pF.P a.hhi a.gr (gd.P b)).1)+(1:Int))) (!(a.hneg==(bz b (0:Int)))))) (k1 ((pF.P a.hhi a.gr (gd.P b)).1) (!(a.hneg==(bz b (0:Int)))))) (k1 ((pF.P a.hhi a.gr (gd.P b)).1) (!(a.hneg==(bz b (0:Int)))))))
def dR(q9:Int)(aA:Bool):R:=ai aA (some ((.bP [(.int .i64 ((pg.P q9 (bz (0:Int) q9)).1)),(.int .i64 ((pg.P q9 (bz (0:Int) q9)).2))]),[])) (some ((.bP [(.int .i64 ((pg.P q9 false).1)),(.int .i64 ((pg.P q9 false).2))]),[]))
abbrev ex:=kf X bd an RR
def cQ:=ex [1,1,1,1,1,1] RR nE
def f1(q9:Int)(aA:Bool):R:=dR q9 aA
def f0:R:=cX a b up f1
theorem E1:(λq9 aA=>(hid cQ) ⟨[(9,.int .u64 q9),(11,.bool aA)],[]⟩)=f1:=by funext q9 aA;refine cm ?_;unfold f1;exact aa
theorem run:ca X bd an (cS [6,7]) [6,7] [] [eA .num a,.int .i64 b,.bool up]=f0 a b up:=by unfold f0;rw[<-E1];exact aa
theorem bE(h:jJ a=true):jF kX (f0 a b up):=by
 obtain⟨h1,h2⟩:=mf.1 h;have e:∀x y,jF kX (f1 x y):=λx y=>.fy (λ_=>j3 _ _) λ_=>j3 _ _
 refine .fy (λ_=>j3 _ _) λhd=>.aU ?_ ?_
 ·have hd:=decide_eq_false_iff_not.1 hd;rw[h1,h2,gd.RY]
  simp only[bz,dm,decide_eq_true_eq]
  omega
 ·repeat' first|exact j3 _ _|exact e _ _|(refine Is.fy (λ_=>?_) (λ_=>?_))
def P:Int×Int:=Classical.epsilon λx=>f0 a b up=some (kX x)
theorem aw(h:jJ a=true):f0 a b up=some (.bP [.int .i64 (P a b up).1,.int .i64 (P a b up).2],[]):=(bE a b up h).iJ
def c:Ct:=⟨363,cj (A3 (aR .num) aI aB λa b up=>(jJ a,(.bP [(.int .i64 ((uo.P a b up).1)),(.int .i64 ((uo.P a b up).2))]))),ir call363 func363 (a3 λa b up e_=>(run a b up).trans (aw a b up e_))⟩
end uo
namespace qn
variable(n num den x d:Int)
def X:=dp [⟨277,iS.sp,iS.du⟩,uo.c] 35
def f0:R:=ai (den==(0:Int)) (some ((.bP [.int .i64 (0:Int),.int .i64 (0:Int),.int .i64 (16:Int)]),[])) (aU (jJ (iS.P n num)) (ai (((uo.P (iS.P n num) den false).2) !=(0:Int)) (some ((.bP [.int .i64 (0:Int),.int .i64 (0:Int),(.int .i64 ((uo.P (iS.P n num) den false).2))]),[])) (aU (jJ (iS.P n num)) (ai (((uo.P (iS.P n num) den true).2) !=(0:Int)) (some ((.bP [.int .i64 (0:Int),.int .i64 (0:Int),(.int .i64 ((uo.P (iS.P n num) den true).2))]),[])) (some ((.bP [(.int .i64 ((uo.P (iS.P n num) den false).1)),(.int .i64 ((uo.P (iS.P n num) den true).1)),.int .i64 (0:Int)]),[]))))))
theorem run:ca X (dG f305) .d (cS [6,7,8]) [6,7,8] [] [.int .i64 n,.int .i64 num,.int .i64 den]=f0 n num den:=aa
theorem bE:jF DK (f0 n x d):=by unfold f0;repeat' first|exact DY _ _ _|(refine Is.aU (by exact iS.vd _ _) ?_)|(refine Is.fy (λ_=>?_) (λ_=>?_))
def P:Int×Int×Int:=Classical.epsilon λy=>f0 n x d=some (DK y)
theorem aw:f0 n x d=some (.bP [.int .i64 (P n x d).1,.int .i64 (P n x d).2.1,.int .i64 (P n x d).2.2],[]):=(bE n x d).iJ
def c:Ct:=⟨305,dU (A3 aI aI aI λn num den=>(.bP [(.int .i64 ((qn.P n num den).1)),(.int .i64 ((qn.P n num den).2.1)),(.int .i64 ((qn.P n num den).2.2))])),oS call305 func305 (a3 λn num den=>(run n num den).trans (aw n num den))⟩
end qn
end
end Go.Proofs.YtfmamkmmohilgaaGreatDoor
namespace Go.Proofs.YtfmamkmmohilgaaGreatDoor
open Go.Proofs.Tryz IntKind
set_option linter.all false
noncomputable section
def RC:gb U:=(.seq none .d (.seq (some (cS [])) (.seq none .d (.block (.loop (cS [0,1,7,8]) .d))) .d))
def Wb:bn U El:=λst=>cN (cS [4]) st (ch [4] [])
def sK(X:Ctx U El)(c:Code):bn U El:=kf X c RC Wb [1,1] Wb nE
def Nv(X:Ctx U El)(c:Code):Nat->bn U El:=nO X c RC Wb (cS [0,1,7,8]) [1,0,1,0,0] (cu 0 (bG (cS []) (hid (sK X c))) nE)
def PS(u:U)(l:ah (El u))(F:AV U El)(a b:Int):St U El:=⟨[(0,.au u l),(1,F),(7,.int .i64 a),(8,.int .i64 b)],[]⟩
variable{X:Ctx U El}{c:Code}{u:U}{l:ah (El u)}{F:AV U El}{p q:El u->Bool}
theorem KC(h:(bU l.length 90000&&List.all l q)=true)(h1:ca X c RC (cS [4]) [4] [] [.au u l,F]=hid (Nv X c 100000) (PS u l F (Int.ofNat l.length) 0))
 (h2:∀n a b,Nv X c (n+1) (PS u l F a b)=ai (bz b a) (aU (dV b l.length) (aU (q (l.getD b.toNat (E.iL u))) (ai (p (l.getD b.toNat (E.iL u))) (gl b) (Nv X c n (PS u l F a (i64.wrap (b+1))))))) (hid (sK X c) ⟨[],[]⟩))
 (h3:sK X c ⟨[],[]⟩=gl (-1)):ca X c RC (cS [4]) [4] [] [.au u l,F]=gl (dM p 0 l):=by
 simp only[aj]at h;have ha:=aP.1 h.2;have hl:=ia h.1;rw[h1,cM]
 refine(jr l ab (λn _ i=>Nv X c n (PS u l F (Int.ofNat l.length) i)) (λ(_:Unit) i x k=>ai (p x) (gl i) (k ())) (λ_=>gl (-1)) (λn s i hi=>?_) (λn s=>?_) 100000 0 () ab ab).trans (qV p gl l 0)
 ·show Nv X c (n+1) _=_;rw[h2,eh (by simp;omega),c9 hi,toNat_nat,bQ hi,ha l[i] (bW hi)]
  rfl
 ·show Nv X c (n+1) _=_;rw[h2,dF ae,cM,h3]
  rfl
theorem qt(h:bU l.length 90000=true)(h1:ca X c RC (cS [4]) [4] [] [.au u l,F]=hid (Nv X c 100000) (PS u l F (Int.ofNat l.length) 0))
 (h2:∀n a b,Nv X c (n+1) (PS u l F a b)=ai (bz b a) (aU (dV b l.length) (ai (p (l.getD b.toNat (E.iL u))) (gl b) (Nv X c n (PS u l F a (i64.wrap (b+1)))))) (hid (sK X c) ⟨[],[]⟩))
 (h3:sK X c ⟨[],[]⟩=gl (-1)):ca X c RC (cS [4]) [4] [] [.au u l,F]=gl (dM p 0 l):=
 KC (q:=λ_=>true) (by rw[h];simp) h1 h2 h3
theorem cont{b:Bool}(h:b=true)(h1:ca X c .d (cS [4]) [4] [] [.au u l,F]=aU b (aq (bg 0 (dM p 0 l)))):ca X c .d (cS [4]) [4] [] [.au u l,F]=aq (l.any p):=by rw[h1,h,eZ,xf]
end
end Go.Proofs.YtfmamkmmohilgaaGreatDoor
namespace Go.Proofs.YtfmamkmmohilgaaGreatDoor
open Go.Proofs.Tryz IntKind
set_option linter.all false
set_option maxRecDepth 100000
noncomputable section
def gm(n:Net):Bool:=bU n.ct.length 90000&&(bU n.cD.length 90000&&List.all n.cD (λx=>bU x.lv.length 90000))
def dX(n:Net)(s:ah UInt8):Int:=dM (isNode s) 0 n.ct
def fu(n:Net)(s:ah UInt8):Int:=dM (uQ s) 0 n.cD
theorem o0{n:Net}(h:gm n=true):bU n.ct.length 90000=true:=(aZ.1 h).1
theorem p_{n:Net}(h:gm n=true):bU n.cD.length 90000=true:=(aZ.1 (aZ.1 h).2).1
theorem P8{n:Net}(h:gm n=true):∀x∈n.cD,bU x.lv.length 90000=true:=aP.1 (aZ.1 (aZ.1 h).2).2
namespace YO
variable(x:Node)
def X:=dp [] 13
def f0:R:=ai (bz (20:Int) (Int.ofNat x.nh.length)) (aq true) (aq (bz (60:Int) (Int.ofNat x.nn.length)))
theorem run:ca X (dG f72) .d (cS [2]) [2] [] [eA .node x]=f0 x:=aa
theorem aw:f0 x=aq (tX x):=PA aq _ _
def c:Ct:=⟨72,dU (A1 (aR .node) λx=>(.bool (tX x))),oS call72 func72 (a1 λx=>(run x).trans (aw x))⟩
end YO
namespace SQ
def X:=dp [YO.c] 19
def g:ah (AV U El)->Option (Bool×AV U El)
 |[.au .node l,.fn 72 [] []]=>some (bU l.length 90000,.int .i64 (dM tX 0 l))
 |_=>none
def c:Ct:=⟨143,cj g,ir call143 func143 λvs v h e=>by
 unfold g at h;split at h;cases h;exact qt (X:=X) e aa (λ_ _ _=>aa) aa;cases h⟩
end SQ
namespace SR
def X:=dp [SQ.c] 9
def g:ah (AV U El)->Option (Bool×AV U El)
 |[.au .node l,.fn 72 [] []]=>some (bU l.length 90000,.bool (List.any l tX))
 |_=>none
def c:Ct:=⟨71,cj g,ir call71 func71 λvs v h e=>by
 unfold g at h;split at h;cases h;exact cont (X:=X) e aa;cases h⟩
end SR
namespace YN
variable(x:cJ)
def X:=dp [] 31
def f0:R:=ai (bz (20:Int) (Int.ofNat x.lv.length)) (aq true) (ai (bz (60:Int) (Int.ofNat x.ln.length)) (aq true) (ai (bz (60:Int) (Int.ofNat x.lf.length)) (aq true) (ai (bz (60:Int) (Int.ofNat x.lt.length)) (aq true) (aq (bz (60:Int) (Int.ofNat x.lc.length))))))
theorem run:ca X (dG f74) .d (cS [2]) [2] [] [eA .link x]=f0 x:=aa
theorem aw:f0 x=aq (qk x):=by unfold f0 qk;simp only[oB,PA]
def c:Ct:=⟨74,dU (A1 (aR .link) λx=>(.bool (qk x))),oS call74 func74 (a1 λx=>(run x).trans (aw x))⟩
end YN
namespace SO
def X:=dp [YN.c] 19
def g:ah (AV U El)->Option (Bool×AV U El)
 |[.au .link l,.fn 74 [] []]=>some (bU l.length 90000,.int .i64 (dM qk 0 l))
 |_=>none
def c:Ct:=⟨144,cj g,ir call144 func144 λvs v h e=>by
 unfold g at h;split at h;cases h;exact qt (X:=X) e aa (λ_ _ _=>aa) aa;cases h⟩
end SO
namespace SP
def X:=dp [SO.c] 9
def g:ah (AV U El)->Option (Bool×AV U El)
 |[.au .link l,.fn 74 [] []]=>some (bU l.length 90000,.bool (List.any l qk))
 |_=>none
def c:Ct:=⟨73,cj g,ir call73 func73 λvs v h e=>by
 unfold g at h;split at h;cases h;exact cont (X:=X) e aa;cases h⟩
end SP
namespace YM
variable(x:cK)
def X:=dp [] 13
def f0:R:=ai (bz (20:Int) (Int.ofNat x.sa.length)) (aq true) (aq (bz (20:Int) (Int.ofNat x.sc.length)))
theorem run:ca X (dG f76) .d (cS [2]) [2] [] [eA .dj x]=f0 x:=aa
theorem aw:f0 x=aq (rO x):=PA aq _ _
def c:Ct:=⟨76,dU (A1 (aR .dj) λx=>(.bool (rO x))),oS call76 func76 (a1 λx=>(run x).trans (aw x))⟩
end YM
namespace SL
def X:=dp [YM.c] 19
def g:ah (AV U El)->Option (Bool×AV U El)
 |[.au .dj l,.fn 76 [] []]=>some (bU l.length 90000,.int .i64 (dM rO 0 l))
 |_=>none
def c:Ct:=⟨145,cj g,ir call145 func145 λvs v h e=>by
 unfold g at h;split at h;cases h;exact qt (X:=X) e aa (λ_ _ _=>aa) aa;cases h⟩
end SL
namespace SN
def X:=dp [SL.c] 9
def g:ah (AV U El)->Option (Bool×AV U El)
 |[.au .dj l,.fn 76 [] []]=>some (bU l.length 90000,.bool (List.any l rO))
 |_=>none
def c:Ct:=⟨75,cj g,ir call75 func75 λvs v h e=>by
 unfold g at h;split at h;cases h;exact cont (X:=X) e aa;cases h⟩
end SN
namespace YL
def X:=dp [] 7
def f0(x:cT):R:=aq (bz (8:Int) (Int.ofNat x.rw.length))
theorem run(x):ca X (dG f78) .d (cS [2]) [2] [] [eA .eG x]=f0 x:=aa
theorem aw(r:cT):f0 r=aq (rP r):=rfl
def c:Ct:=⟨78,dU (A1 (aR .eG) λx=>(.bool (rP x))),oS call78 func78 (a1 λx=>(run x).trans (aw x))⟩
end YL
namespace SJ
def X:=dp [YL.c] 19
def g:ah (AV U El)->Option (Bool×AV U El)
 |[.au .eG l,.fn 78 [] []]=>some (bU l.length 90000,.int .i64 (dM rP 0 l))
 |_=>none
def c:Ct:=⟨136,cj g,ir call136 func136 λvs v h e=>by
 unfold g at h;split at h;cases h;exact qt (X:=X) e aa (λ_ _ _=>aa) aa;cases h⟩
end SJ
namespace SK
def X:=dp [SJ.c] 9
def g:ah (AV U El)->Option (Bool×AV U El)
 |[.au .eG l,.fn 78 [] []]=>some (bU l.length 90000,.bool (List.any l rP))
 |_=>none
def c:Ct:=⟨77,cj g,ir call77 func77 λvs v h e=>by
 unfold g at h;split at h;cases h;exact cont (X:=X) e aa;cases h⟩
end SK
def s6(n:Net):Bool:=bz 12 (Int.ofNat n.ct.length)||(bz 12 (Int.ofNat n.cD.length)||(List.any n.ct tX||List.any n.cD qk))
namespace BM
variable(n:Net)
def X:=dp [SR.c,SP.c] 23
def f0:R:=ai (bz (12:Int) (Int.ofNat n.ct.length)) (aq true) (ai (bz (12:Int) (Int.ofNat n.cD.length)) (aq true) (aU (bU n.ct.length 90000) (ai (List.any n.ct tX) (aq true) (aU (bU n.cD.length 90000) (aq (List.any n.cD qk))))))
theorem run:ca X (dG f28) .d (cS [2]) [2] [] [eA .mP n]=f0 n:=aa
theorem aw:f0 n=aq (s6 n):=by
 unfold f0 s6;by_cases h1:(12:Int)<Int.ofNat n.ct.length
 ·rw[eh h1];rfl
 ·by_cases h2:(12:Int)<Int.ofNat n.cD.length
  ·rw[eh h2];cases bz 12 (Int.ofNat n.ct.length)<;>rfl
  ·rw[dF h1,dF h2,c_ (show n.ct.length<=90000 by simp at h1;omega),c_ (show n.cD.length<=90000 by simp at h2;omega)]
   simp only[eZ,oB,PA,gy,fe]
def c:Ct:=⟨28,dU (A1 (aR .mP) λn=>(.bool (s6 n))),oS call28 func28 (a1 λn=>(run n).trans (aw n))⟩
end BM
namespace Tr
variable(x:Int)
def X:=dp [] 9
def f0:R:=ai (bz x (-4194304:Int)) (aq true) (aq (bz (4194304:Int) x))
theorem run:ca X (dG f244) .d (cS [2]) [2] [] [.int .i64 x]=f0 x:=aa
theorem aw:f0 x=aq (nT x):=PA aq _ _
def c:Ct:=⟨244,dU (A1 aI λx=>(.bool (nT x))),oS call244 func244 (a1 λx=>(run x).trans (aw x))⟩
end Tr
namespace Pf
def X:=dp [Tr.c] 19
def g:ah (AV U El)->Option (Bool×AV U El)
 |[.au .int l,.fn 244 [] []]=>some (bU l.length 90000,.int .i64 (dM nT 0 l))
 |_=>none
def c:Ct:=⟨173,cj g,ir call173 func173 λvs v h e=>by
 unfold g at h;split at h;cases h;exact qt (X:=X) e aa (λ_ _ _=>aa) aa;cases h⟩
end Pf
namespace Pg
def X:=dp [Pf.c] 9
def g:ah (AV U El)->Option (Bool×AV U El)
 |[.au .int l,.fn 244 [] []]=>some (bU l.length 90000,.bool (List.any l nT))
 |_=>none
def c:Ct:=⟨101,cj g,ir call101 func101 λvs v h e=>by
 unfold g at h;split at h;cases h;exact cont (X:=X) e aa;cases h⟩
end Pg
namespace level
variable(l:ah Int)
def X:=dp [Pg.c] 6
def f0:R:=aU (bU l.length 90000) (aq (!(List.any l nT)))
theorem run:ca X (dG f180) .d (cS [2]) [2] [] [.au .int l]=f0 l:=aa
theorem aw(h:bU l.length 90000=true):f0 l=aq (!(List.any l nT)):=by show aU _ (aq _)=_;rw[h];rfl
def c:Ct:=⟨180,cj (A1 (bL .int) λl=>(bU l.length 90000,(.bool (!(List.any l nT))))),ir call180 func180 (a1 λl e_=>(run l).trans (aw l e_))⟩
end level
namespace YT
variable(x:Node)(s:ah UInt8)
def X:=dp [] 8
def f0:R:=aq (x.nn==s)
theorem run:ca X (dG f182) .d (cS [3]) [3] [] [eA .node x,.pcs [.str s] 0]=f0 x s:=aa
theorem aw:f0 x s=aq (isNode s x):=rfl
def g:ah (AV U El)->Option (AV U El)
 |[.agg [.str Ke,.int .i64 Kf,.int .i64 Ka,.int .i64 J',.int .i64 Kg,.int .i64 Ki,.au .cP Kh,.bool Kc,.int .i64 Kb],.pcs [.str s] 0]=>some (.bool ((isNode s) (⟨Ke,Kf,Ka,J',Kg,Ki,Kh,Kc,Kb⟩:Node)))
 |_=>none
def c:Ct:=⟨182,dU g,oS call182 func182 λvs v h=>by
 unfold g at h;split at h;cases h;exact(run ⟨_,_,_,_,_,_,_,_,_⟩ _).trans (aw ⟨_,_,_,_,_,_,_,_,_⟩ _);cases h⟩
end YT
namespace Tb
def X:=dp [YT.c] 19
def g:ah (AV U El)->Option (Bool×AV U El)
 |[.au .node l,.fn 182 [] [.pcs [.str s] 0]]=>some (bU l.length 90000,(.int .i64 (dM (isNode s) 0 l)))
 |_=>none
def c:Ct:=⟨143,cj g,ir call143 func143 λvs v h e=>by
 unfold g at h;split at h;cases h;exact qt (X:=X) e aa (λ_ _ _=>aa) aa;cases h⟩
end Tb
namespace YV
variable(x:cJ)(s:ah UInt8)
def X:=dp [] 8
def f0:R:=aq (x.ln==s)
theorem run:ca X (dG f188) .d (cS [3]) [3] [] [eA .link x,.pcs [.str s] 0]=f0 x s:=aa
theorem aw:f0 x s=aq (uQ s x):=rfl
def g:ah (AV U El)->Option (AV U El)
 |[.agg [.str M_,.str Nc,.str M9,.int .i64 Na,.int .i64 M',.int .i64 M8,.int .i64 Nd,.str Nf,.int .i64 M6,.int .i64 Nb,.au .cP M7],.pcs [.str s] 0]=>some (.bool ((uQ s) (⟨M_,Nc,M9,Na,M',M8,Nd,Nf,M6,Nb,M7⟩:cJ)))
 |_=>none
def c:Ct:=⟨188,dU g,oS call188 func188 λvs v h=>by
 unfold g at h;split at h;cases h;exact(run ⟨_,_,_,_,_,_,_,_,_,_,_⟩ _).trans (aw ⟨_,_,_,_,_,_,_,_,_,_,_⟩ _);cases h⟩
end YV
namespace Tn
def X:=dp [YV.c] 19
def g:ah (AV U El)->Option (Bool×AV U El)
 |[.au .link l,.fn 188 [] [.pcs [.str s] 0]]=>some (bU l.length 90000,(.int .i64 (dM (uQ s) 0 l)))
 |_=>none
def c:Ct:=⟨144,cj g,ir call144 func144 λvs v h e=>by
 unfold g at h;split at h;cases h;exact qt (X:=X) e aa (λ_ _ _=>aa) aa;cases h⟩
end Tn
namespace YJ
variable(x:cH)
def X:=dp [between.c] 13
def f0:R:=ai (!(bg (0:Int) x.kx&&bg x.kx (4194304:Int))) (aq true) (aq (!(bg (0:Int) x.ky&&bg x.ky (1099511627776:Int))))
theorem run:ca X (dG f187) .d (cS [2]) [2] [] [eA .cP x]=f0 x:=aa
theorem aw:f0 x=aq (ou x):=PA aq _ _
def c:Ct:=⟨187,dU (A1 (aR .cP) λx=>(.bool (ou x))),oS call187 func187 (a1 λx=>(run x).trans (aw x))⟩
end YJ
namespace SA
def X:=dp [YJ.c] 19
def g:ah (AV U El)->Option (Bool×AV U El)
 |[.au .cP l,.fn 187 [] []]=>some (bU l.length 90000,.int .i64 (dM ou 0 l))
 |_=>none
def c:Ct:=⟨247,cj g,ir call247 func247 λvs v h e=>by
 unfold g at h;split at h;cases h;exact qt (X:=X) e aa (λ_ _ _=>aa) aa;cases h⟩
end SA
namespace SB
def X:=dp [SA.c] 9
def g:ah (AV U El)->Option (Bool×AV U El)
 |[.au .cP l,.fn 187 [] []]=>some (bU l.length 90000,.bool (List.any l ou))
 |_=>none
def c:Ct:=⟨186,cj g,ir call186 func186 λvs v h e=>by
 unfold g at h;split at h;cases h;exact cont (X:=X) e aa;cases h⟩
end SB
namespace K_
variable(n:Net)(s:ah UInt8)
def X:=dp [Tb.c] 9
def f0:R:=aU (bU n.ct.length 90000) (gl (dM (isNode s) 0 n.ct))
theorem run:ca X (dG f108) .d (cS [4]) [4] [] [eA .mP n,.str s]=f0 n s:=aa
theorem aw(h:gm n=true):f0 n s=gl (dX n s):=by show aU _ _=_;rw[o0 h];rfl
def c:Ct:=⟨108,cj (A2 (aR .mP) aS λn s=>(gm n,.int .i64 (dX n s))),ir call108 func108 (a2 λn s e_=>(run n s).trans (aw n s e_))⟩
end K_
namespace nlink
variable(n:Net)(s:ah UInt8)
def X:=dp [Tn.c] 9
def f0:R:=aU (bU n.cD.length 90000) (gl (dM (uQ s) 0 n.cD))
theorem run:ca X (dG f110) .d (cS [4]) [4] [] [eA .mP n,.str s]=f0 n s:=aa
theorem aw(h:gm n=true):f0 n s=gl (fu n s):=by show aU _ _=_;rw[p_ h];rfl
def c:Ct:=⟨110,cj (A2 (aR .mP) aS λn s=>(gm n,.int .i64 (fu n s))),ir call110 func110 (a2 λn s e_=>(run n s).trans (aw n s e_))⟩
end nlink
namespace BL
variable(aA:ah UInt8)(i5:Int)(n:Net)(s:ah UInt8)
def X:=dp [] 22
def bd:=dG f82
def RR:bn U El:=λst=>cN (cS [4]) st (ch [4] [])
def eE:Norm U:=cS []
def dI:Norm U:=⟨[],[1,2,5],[2],[],[],[],[(2,0,.node),(2,1,.link)]⟩
def an:gb U:=(.seq none .d (.seq (some eE) (.seq none .d (.block (.loop dI .d))) .d))
abbrev Y1:=R
abbrev Y2:=(ah UInt8)->Int->(ah Node)->(ah cJ)->R
def fY(bA:ah Node)(cA:ah cJ):St U El:=⟨[(1,.str aA),(2,.ptr 2 0),(5,.int .i64 i5)],[(2,.box 0 [.au .node bA,.au .link cA])]⟩
def cX(k2:Y2):R:=k2 s (0:Int) n.ct n.cD
def dR:R:=gl (-1:Int)
def dQ(bA:ah Node)(cA:ah cJ)(k1:Y1)(k2:Y2):R:=ai (bz i5 (Int.ofNat bA.length)) (aU (dV i5 bA.length) (ai (((bA.getD i5.toNat fU).nn)==aA) (gl i5) (k2 aA (i64.wrap (i5+(1:Int))) bA cA))) (k1)
abbrev ex:=kf X bd an RR
abbrev it:=nO X bd an RR
def gu(gW:bn U El):=it dI [1,0,1,0,0] (cu 0 (bG eE gW) nE)
def cQ:=ex [1,1] RR nE
def f1:R:=dR
def f2:Nat->Y2
 |0=>λ_ _ _ _=>none
 |n+1=>λaA i5 bA cA=>dQ aA i5 bA cA f1 (f2 n)
def f0:R:=cX n s (f2 100000)
theorem E1:((hid cQ) ⟨[],[]⟩)=f1:=by refine cm ?_;unfold f1;exact aa
theorem T2:∀n,(λaA i5 bA cA=>gu (hid cQ) n (fY aA i5 bA cA))=f2 n:=by
 intro n;induction n with
 |zero=>rfl
 |succ n ih=>funext aA i5 bA cA;rw[f2];rw[<-E1,<-ih];exact aa
theorem H2:(λaA i5 bA cA=>hid (gu (hid cQ) 100000) (fY aA i5 bA cA))=f2 100000:=by rw[cM];exact(T2 100000)
theorem run:ca X bd an (cS [4]) [4] [] [eA .mP n,.str s]=f0 n s:=by unfold f0;rw[<-H2];exact aa
theorem aw(h:gm n=true):f0 n s=gl (dX n s):=by
 have hl:=ia (o0 h)
 refine(jr n.ct ab (λm (_:Unit) i=>f2 m s i n.ct n.cD) _ (λ_=>gl (-1)) (λm u i hi=>?_) (λm u=>?_) 100000 0 () ab ab).trans (qV (isNode s) gl n.ct 0)
 ·show dQ s i n.ct n.cD f1 (f2 m)=_;unfold dQ;rw[eh (by simp;omega),c9 hi,toNat_nat,bQ hi]
  rfl
 ·show dQ s (n.ct.length:Int) n.ct n.cD f1 (f2 m)=_;unfold dQ;rw[dF ae]
  rfl
def c:Ct:=⟨82,cj (A2 (aR .mP) aS λn s=>(gm n,.int .i64 (dX n s))),ir call82 func82 (a2 λn s e_=>(run n s).trans (aw n s e_))⟩
end BL
namespace tG
variable(aA:ah UInt8)(i5:Int)(n:Net)(s:ah UInt8)
def X:=dp [] 22
def bd:=dG f40
def RR:bn U El:=λst=>cN (cS [4]) st (ch [4] [])
def eE:Norm U:=cS []
def dI:Norm U:=⟨[],[1,2,5],[2],[],[],[],[(2,0,.node),(2,1,.link)]⟩
def an:gb U:=(.seq none .d (.seq (some eE) (.seq none .d (.block (.loop dI .d))) .d))
abbrev Y1:=R
abbrev Y2:=(ah UInt8)->Int->(ah Node)->(ah cJ)->R
def fY(bA:ah Node)(cA:ah cJ):St U El:=⟨[(1,.str aA),(2,.ptr 2 0),(5,.int .i64 i5)],[(2,.box 0 [.au .node bA,.au .link cA])]⟩
def cX(k2:Y2):R:=k2 s (0:Int) n.ct n.cD
def dR:R:=gl (-1:Int)
def dQ(bA:ah Node)(cA:ah cJ)(k1:Y1)(k2:Y2):R:=ai (bz i5 (Int.ofNat cA.length)) (aU (dV i5 cA.length) (ai (((cA.getD i5.toNat dz).ln)==aA) (gl i5) (k2 aA (i64.wrap (i5+(1:Int))) bA cA))) (k1)
abbrev ex:=kf X bd an RR
abbrev it:=nO X bd an RR
def gu(gW:bn U El):=it dI [1,0,1,0,0] (cu 0 (bG eE gW) nE)
def cQ:=ex [1,1] RR nE
def f1:R:=dR
def f2:Nat->Y2
 |0=>λ_ _ _ _=>none
 |n+1=>λaA i5 bA cA=>dQ aA i5 bA cA f1 (f2 n)
def f0:R:=cX n s (f2 100000)
theorem E1:((hid cQ) ⟨[],[]⟩)=f1:=by refine cm ?_;unfold f1;exact aa
theorem T2:∀n,(λaA i5 bA cA=>gu (hid cQ) n (fY aA i5 bA cA))=f2 n:=by
 intro n;induction n with
 |zero=>rfl
 |succ n ih=>funext aA i5 bA cA;rw[f2];rw[<-E1,<-ih];exact aa
theorem H2:(λaA i5 bA cA=>hid (gu (hid cQ) 100000) (fY aA i5 bA cA))=f2 100000:=by rw[cM];exact(T2 100000)
theorem run:ca X bd an (cS [4]) [4] [] [eA .mP n,.str s]=f0 n s:=by unfold f0;rw[<-H2];exact aa
theorem aw(h:gm n=true):f0 n s=gl (fu n s):=by
 have hl:=ia (p_ h)
 refine(jr n.cD ab (λm (_:Unit) i=>f2 m s i n.ct n.cD) _ (λ_=>gl (-1)) (λm u i hi=>?_) (λm u=>?_) 100000 0 () ab ab).trans (qV (uQ s) gl n.cD 0)
 ·show dQ s i n.ct n.cD f1 (f2 m)=_;unfold dQ;rw[eh (by simp;omega),c9 hi,toNat_nat,bQ hi]
  rfl
 ·show dQ s (n.cD.length:Int) n.ct n.cD f1 (f2 m)=_;unfold dQ;rw[dF ae]
  rfl
def c:Ct:=⟨40,cj (A2 (aR .mP) aS λn s=>(gm n,.int .i64 (fu n s))),ir call40 func40 (a2 λn s e_=>(run n s).trans (aw n s e_))⟩
end tG
namespace found
def X:=dp [] 9
def f0(n:Net)(i:Int):R:=ai (bz i (0:Int)) (some ((.bP [.int .i64 (0:Int),.int .i64 (9:Int)]),[])) (some ((.bP [.int .i64 i,.int .i64 (0:Int)]),[]))
theorem run(n i):ca X (dG f116) .d (cS [4,5]) [4,5] [] [eA .mP n,.int .i64 i]=f0 n i:=aa
theorem aw(n:Net)(i:Int):f0 n i=some (.bP [.int .i64 (bif bz i 0 then 0 else i),.int .i64 (bif bz i 0 then 9 else 0)],[]):=by unfold f0;cases bz i 0<;>rfl
def c:Ct:=⟨116,dU (A2 (aR .mP) aI λn i=>(.bP [(.int .i64 ((bif bz i 0 then 0 else i))),(.int .i64 ((bif bz i 0 then 9 else 0)))])),oS call116 func116 (a2 λn i=>(run n i).trans (aw n i))⟩
end found
theorem sj{Q:Type}(a b:Bool)(x y:Q):ai a x (ai b x y)=ai (a||b) x y:=by cases a<;>rfl
theorem Ir{Q:Type}(a b:Bool)(x y:Q):ai a (ai b x y) y=ai (a&&b) x y:=by cases a<;>rfl
theorem uj{Q:Type}(a:Bool)(x y:Q):ai (!a) x y=ai a y x:=by cases a<;>rfl
def allI{α:Type}(p:Nat->α->Bool):Nat->ah α->Bool
 |_,[]=>true
 |i,x::l=>p i x&&allI p (i+1) l
theorem kJ{α:Type}(q:Nat->α->Bool)(fin:Unit->R)(b:Bool):∀(l:ah α) (i:Nat),Gt (σ:=Unit) (λ_ i x k=>ai (q i x) (aq b) (k ())) fin () i l=ai (allI (λi x=> !q i x) i l) (fin ()) (aq b):=by
 intro l;induction l with
 |nil=>intro i;rfl
 |cons x l ih=>
  intro i;simp only[Gt,allI]
  cases q i x
  ·exact ih (i+1)
  ·rfl
theorem wx{α:Type}{p:Nat->α->Bool}:∀{l:ah α} {i:Nat},allI p i l=true↔∀(j:Nat) x,l[j]?=some x->p (i+j) x=true:=by
 intro l;induction l with
 |nil=>intro i;simp[allI]
 |cons y l ih=>
  intro i;simp only[allI,aj,ih]
  constructor
  ·rintro⟨h1,h2⟩ j x hj;cases j with
   |zero=>simp at hj;subst hj;exact h1
   |succ j=>have:=h2 j x (by simpa using hj);rwa [show i+1+j=i+(j+1) by omega]at this
  ·intro h;exact⟨h 0 y rfl,λj x hj=>by have:=h (j+1) x (by simpa using hj);rwa [show i+(j+1)=i+1+j by omega]at this⟩
theorem wrapM(i:Nat)(h0:0<i)(h:i<=1000000):i64.wrap ((i:Int)-1)=((i-1:Nat):Int):=vm i h0 h
def kV(t:ah cH)(i:Nat)(k:cH):Bool:=!(mo 1125899906842624 k.kx)||(!(mo 1125899906842624 k.ky)||(lU 0 i&&(bg k.kx (List.getD t (i-1) cE).kx||bz k.ky (List.getD t (i-1) cE).ky)))
def fN(t:ah cH):Bool:= !(bz (Int.ofNat t.length) 1)&&(!(bz 100 (Int.ofNat t.length))&&allI (λi k=> !(kV t i k)) 0 t)
def iX(t:ah cH):cH:=List.getD t (t.length-1) cE
def rY(t:ah cH):cH:=List.getD t 0 cE
def iZ(t:ah cH)(d:Int):Bool:=fN t&&(((rY t).kx==0)&&(((rY t).ky==0)&&(((iX t).kx==d)&&bg (iX t).ky 1125899906842624)))
def pG(t:ah cH):Bool:=fN t&&(bg 0 (rY t).kx&&(bg (iX t).kx 4194304&&(bg 0 (rY t).ky&&bg (iX t).ky 1099511627776)))
theorem iT{t:ah cH}(h:fN t=true):0<t.length/\t.length<=100:=by simp only[fN,aj,cF]at h;have h1:=oD h.1;have h2:=oD h.2.1;simp at h1 h2;omega
theorem BU{t:ah cH}(h:fN t=true):i64.wrap (Int.ofNat t.length-1)=((t.length-1:Nat):Int):=by obtain⟨h1,h2⟩:=iT h;exact vm t.length ab ab
namespace wI
variable(iP:bn U El)(t0 t:ah cH)
def X:=dp [fits.c] 57
def bd:=dG f185
def RR:bn U El:=λst=>cN (cS [2]) st (ch [2] [])
def dI:Norm U:=cS []
def jY:Norm U:=cS [0,13,14,15]
def an:gb U:=(.seq none .d (.seq (some (cS [0])) .d (.seq (some dI) (.seq none .d (.block (.loop jY (.seq none .d (.seq none .d (.seq (some jY) .d .d)))))) .d)))
abbrev Y1:=(ah cH)->R
abbrev Y2:=R
abbrev Y3:=(ah cH)->(ah cH)->Int->Int->R
abbrev Y4:=(ah cH)->(ah cH)->Int->Int->R
def nz(bA:ah cH)(cA aA:Int):St U El:=⟨[(0,.au .cP t0),(13,.au .cP bA),(14,.int .i64 cA),(15,.int .i64 aA)],[]⟩
def cX(k1:Y1):R:=ai (bz (Int.ofNat t.length) (1:Int)) (aq false) (ai (bz (100:Int) (Int.ofNat t.length)) (aq false) (k1 t))
def dR(k3:Y3):R:=k3 t0 t0 (Int.ofNat t0.length) (0:Int)
def dQ:R:=aq true
def gf(bA:ah cH)(cA aA:Int)(k2:Y2)(k4:Y4):R:=ai (bz aA cA) (aU (dV aA bA.length) (ai (!(mo 1125899906842624 ((bA.getD aA.toNat cE).kx))) (aq false) (ai (!(mo 1125899906842624 ((bA.getD aA.toNat cE).ky))) (aq false) (ai (bz (0:Int) aA) (aU (dV (i64.wrap (aA-(1:Int))) t0.length) (ai (bg ((bA.getD aA.toNat cE).kx) ((List.getD t0 (Int.toNat (i64.wrap (aA-(1:Int)))) cE).kx)) (aq false) (aU (dV (i64.wrap (aA-(1:Int))) t0.length) (ai (bz ((bA.getD aA.toNat cE).ky) ((List.getD t0 (Int.toNat (i64.wrap (aA-(1:Int)))) cE).ky)) (aq false) (k4 t0 bA cA aA))))) (k4 t0 bA cA aA))))) (k2)
def l_(bA:ah cH)(cA aA:Int)(k3:Y3):R:=k3 t0 bA cA (i64.wrap (aA+(1:Int)))
abbrev ex:=kf X bd an RR
abbrev it:=nO X bd an RR
def nU:=it jY [1,1,0,1,0,0] (cu 0 (bG dI iP) nE)
def cQ:=ex [1,1] RR nE
def ib:=ex [1,1,1] RR nE
def pH(oV:bn U El):=ex [1,1,0,1,0,0,1,1,1] (bG jY oV) (cu 0 (bG dI iP) nE)
def f2:R:=dQ
def f4(k3:Y3)(t0 bA:ah cH)(cA aA:Int):R:=l_ t0 bA cA aA k3
def f3:Nat->Y3
 |0=>λ_ _ _ _=>none
 |n+1=>λt0 bA cA aA=>gf t0 bA cA aA f2 (f4 (f3 n))
def f1:R:=dR t0 (f3 100000)
def f0:R:=cX t f1
theorem E2:((hid ib) ⟨[],[]⟩)=f2:=by refine cm ?_;unfold f2;exact aa
theorem E4(pf:bn U El)(k3:Y3)(h3:(λt0 bA cA aA=>pf (nz t0 bA cA aA))=k3):(λt0 bA cA aA=>(hid (pH (hid ib) pf)) ⟨[(0,.au .cP t0),(13,.au .cP bA),(14,.int .i64 cA),(15,.int .i64 aA)],[]⟩)=f4 k3:=by subst h3;funext t0 bA cA aA;refine cm ?_;unfold f4;exact aa
theorem T3:∀n,(λt0 bA cA aA=>nU (hid ib) n (nz t0 bA cA aA))=f3 n:=by
 intro n;induction n with
 |zero=>rfl
 |succ n ih=>funext t0 bA cA aA;rw[f3];rw[<-E2,<-E4 (nU (hid ib) n) _ ih];exact aa
theorem H3:(λt0 bA cA aA=>hid (nU (hid ib) 100000) (nz t0 bA cA aA))=f3 100000:=by rw[cM];exact(T3 100000)
theorem E1:(λt0=>(hid cQ) ⟨[(0,.au .cP t0)],[]⟩)=f1:=by funext t0;refine cm ?_;unfold f1;rw[<-H3];exact aa
theorem run:ca X bd an (cS [2]) [2] [] [.au .cP t]=f0 t:=by unfold f0;rw[<-E1];exact aa
theorem aw:f0 t=aq (fN t):=by
 show cX t f1=_;unfold cX fN;by_cases h1:Int.ofNat t.length<1
 ·rw[eh h1];rfl
 ·by_cases h2:(100:Int)<Int.ofNat t.length
  ·rw[dF h1,eh h2];rfl
  ·rw[dF h1,dF h2]
   show f1 t=aq (allI (λi k=> !(kV t i k)) 0 t)
   have hl:t.length<=100:=by simp at h2;omega
   refine(jr t ab (λn_ (_:Unit) i_=>f3 n_ t t (Int.ofNat t.length) i_) (λu i x k=>ai (kV t i x) (aq false) (k u)) (λ_=>aq true) (λn_ u_ i_ qy=>?_) (λn_ u_=>?_) 100000 0 () ab ab).trans ((kJ (kV t) (λ_=>aq true) false t 0).trans ?_)
   ·show gf t t (Int.ofNat t.length) i_ f2 (f4 (f3 n_))=ai (kV t i_ t[i_]) (aq false) (f3 n_ t t (Int.ofNat t.length) (i64.wrap ((i_:Int)+1)))
    unfold gf kV;rw[eh (by simp;omega),c9 qy,toNat_nat,bQ qy]
    have hk:f4 (f3 n_) t t (Int.ofNat t.length) (i_:Int)=f3 n_ t t (Int.ofNat t.length) (i64.wrap ((i_:Int)+1)):=rfl;rw[hk]
    by_cases h0:0<i_
    ·rw[eh ab,wrapM i_ h0 ab,c9 (show i_-1<t.length by omega),toNat_nat,pw h0]
     simp only[eZ,ee,oB,sj,dm]
    ·rw[dF ab,S_ h0]
     simp only[eZ,ee,gy,oB,sj,Bool.false_and,oe]
   ·show gf t t (Int.ofNat t.length) (t.length:Int) f2 (f4 (f3 n_))=_;unfold gf;rw[dF ae]
    rfl
   ·cases allI (λi x=> !kV t i x) 0 t<;>rfl
def c:Ct:=⟨185,dU (A1 (bL .cP) λt=>(.bool (fN t))),oS call185 func185 (a1 λt=>(run t).trans (aw t))⟩
end wI
namespace yk
variable(iP:bn U El)(t0:ah cH)(i3:Int)(pf:bn U El)(t:ah cH)
def X:=dp [Hp.c] 64
def bd:=dG f230
def RR:bn U El:=λst=>cN (cS [2]) st (ch [2] [])
def dI:Norm U:=cS []
def jY:Norm U:=cS [0,3]
def an:gb U:=(.seq none .d (.seq (some (cS [0])) .d (.seq (some dI) (.seq none .d (.block (.loop jY (.seq none .d (.seq (some jY) (.block (.seq (some jY) .d .d)) .d))))) .d)))
abbrev Y1:=(ah cH)->R
abbrev Y2:=R
abbrev Y3:=(ah cH)->Int->R
abbrev Y4:=(ah cH)->Int->R
abbrev Y5:=(ah cH)->Int->R
def nz:St U El:=⟨[(0,.au .cP t0),(3,.int .i64 i3)],[]⟩
def cX(k1:Y1):R:=ai (bz (Int.ofNat t.length) (1:Int)) (aq false) (ai (bz (100:Int) (Int.ofNat t.length)) (aq false) (k1 t))
def dR(k3:Y3):R:=k3 t0 (0:Int)
def dQ:R:=aq true
def gf(k2:Y2)(k5:Y5):R:=ai (bz i3 (Int.ofNat t0.length)) (aU (dV i3 t0.length) (ai (!(mo 1125899906842624 ((t0.getD i3.toNat cE).kx))) (aq false) (aU (dV i3 t0.length) (ai (!(mo 1125899906842624 ((t0.getD i3.toNat cE).ky))) (aq false) (k5 t0 i3))))) (k2)
def l_(k3:Y3):R:=k3 t0 (i64.wrap (i3+(1:Int)))
def sk(k4:Y4):R:=ai (bz (0:Int) i3) (aU (dV i3 t0.length) (aU (dV (i64.wrap (i3-(1:Int))) t0.length) (ai (bg ((t0.getD i3.toNat cE).kx) ((List.getD t0 (Int.toNat (i64.wrap (i3-(1:Int)))) cE).kx)) (aq false) (aU (dV i3 t0.length) (aU (dV (i64.wrap (i3-(1:Int))) t0.length) (ai (bz ((t0.getD i3.toNat cE).ky) ((List.getD t0 (Int.toNat (i64.wrap (i3-(1:Int)))) cE).ky)) (aq false) (k4 t0 i3))))))) (k4 t0 i3)
abbrev ex:=kf X bd an RR
abbrev it:=nO X bd an RR
def nU:=it jY [1,1,0,1,0,0] (cu 0 (bG dI iP) nE)
def cQ:=ex [1,1] RR nE
def ib:=ex [1,1,1] RR nE
def pH(oV:bn U El):=ex [1,1,0,1,0,0,1,1] (bG jY oV) (cu 0 (bG dI iP) nE)
def rb(Ff:bn U El):=ex [1,1,0,1,0,0,1,0,0,1] (bG jY Ff) (cu 1 (bG jY Ff) (cu 0 (bG dI iP) nE))
def f2:R:=dQ
def f4(k3:Y3)(t0:ah cH)(i3:Int):R:=l_ t0 i3 k3
def f5(k3:Y3)(t0:ah cH)(i3:Int):R:=sk t0 i3 (f4 k3)
def f3:Nat->Y3
 |0=>λ_ _=>none
 |n+1=>λt0 i3=>gf t0 i3 f2 (f5 (f3 n))
def f1:R:=dR t0 (f3 100000)
def f0:R:=cX t f1
theorem E2:((hid ib) ⟨[],[]⟩)=f2:=by refine cm ?_;unfold f2;exact aa
theorem E4(k3:Y3)(h3:(λt0 i3=>pf (nz t0 i3))=k3):(λt0 i3=>(hid (pH (hid ib) pf)) ⟨[(0,.au .cP t0),(3,.int .i64 i3)],[]⟩)=f4 k3:=by subst h3;funext t0 i3;refine cm ?_;unfold f4;exact aa
theorem E5(k3:Y3)(h3:(λt0 i3=>pf (nz t0 i3))=k3):(λt0 i3=>(hid (rb (hid ib) (hid (pH (hid ib) pf)))) ⟨[(0,.au .cP t0),(3,.int .i64 i3)],[]⟩)=f5 k3:=by subst h3;funext t0 i3;refine cm ?_;unfold f5;rw[<-E4 pf _ rfl];exact aa
theorem T3:∀n,(λt0 i3=>nU (hid ib) n (nz t0 i3))=f3 n:=by
 intro n;induction n with
 |zero=>rfl
 |succ n ih=>funext t0 i3;rw[f3];rw[<-E2,<-E5 (nU (hid ib) n) _ ih];exact aa
theorem H3:(λt0 i3=>hid (nU (hid ib) 100000) (nz t0 i3))=f3 100000:=by rw[cM];exact(T3 100000)
theorem E1:(λt0=>(hid cQ) ⟨[(0,.au .cP t0)],[]⟩)=f1:=by funext t0;refine cm ?_;unfold f1;rw[<-H3];exact aa
theorem run:ca X bd an (cS [2]) [2] [] [.au .cP t]=f0 t:=by unfold f0;rw[<-E1];exact aa
theorem aw:f0 t=aq (fN t):=by
 show cX t f1=_;unfold cX fN;by_cases h1:Int.ofNat t.length<1
 ·rw[eh h1];rfl
 ·by_cases h2:(100:Int)<Int.ofNat t.length
  ·rw[dF h1,eh h2];rfl
  ·rw[dF h1,dF h2]
   show f1 t=aq (allI (λi k=> !(kV t i k)) 0 t)
   have hl:t.length<=100:=by simp at h2;omega
   refine(jr t ab (λn_ (_:Unit) i_=>f3 n_ t i_) (λu i x k=>ai (kV t i x) (aq false) (k u)) (λ_=>aq true) (λn_ u_ i_ qy=>?_) (λn_ u_=>?_) 100000 0 () ab ab).trans ((kJ (kV t) (λ_=>aq true) false t 0).trans ?_)
   ·show gf t i_ f2 (f5 (f3 n_))=ai (kV t i_ t[i_]) (aq false) (f3 n_ t (i64.wrap ((i_:Int)+1)))
    unfold gf kV;rw[eh (by simp;omega),c9 qy,toNat_nat,bQ qy]
    have hk:f5 (f3 n_) t (i_:Int)=ai (lU 0 i_&&(bg t[i_].kx (List.getD t (i_-1) cE).kx||bz t[i_].ky (List.getD t (i_-1) cE).ky)) (aq false) (f3 n_ t (i64.wrap ((i_:Int)+1))):=by
     show sk t (i_:Int) (f4 (f3 n_))=_;unfold sk;have hk:f4 (f3 n_) t (i_:Int)=f3 n_ t (i64.wrap ((i_:Int)+1)):=rfl;rw[hk]
     by_cases h0:0<i_
     ·rw[eh ab,wrapM i_ h0 ab,c9 (show i_-1<t.length by omega),c9 qy,toNat_nat,toNat_nat,bQ qy,pw h0]
      simp only[eZ,ee,oB,sj,dm]
     ·rw[dF ab,S_ h0]
      rfl
    rw[hk]
    simp only[eZ,ee,oB,sj]
   ·show gf t (t.length:Int) f2 (f5 (f3 n_))=_;unfold gf;rw[dF ae]
    rfl
   ·cases allI (λi x=> !kV t i x) 0 t<;>rfl
def c:Ct:=⟨230,dU (A1 (bL .cP) λt=>(.bool (fN t))),oS call230 func230 (a1 λt=>(run t).trans (aw t))⟩
end yk
namespace shaped
variable(t:ah cH)(d:Int)
def X:=dp [wI.c] 31
def f0:R:=ai (!(fN t)) (aq false) (aU (dV (i64.wrap ((Int.ofNat t.length)-(1:Int))) t.length) (aU (dV (0:Int) t.length) (ai (((List.getD t 0 cE).kx==(0:Int))&&(((List.getD t 0 cE).ky==(0:Int))&&true)) (ai ((List.getD t (Int.toNat (i64.wrap ((Int.ofNat t.length)-(1:Int)))) cE).kx==d) (aq (bg ((List.getD t (Int.toNat (i64.wrap ((Int.ofNat t.length)-(1:Int)))) cE).ky) (1125899906842624:Int))) (aq false)) (aq false))))
theorem run:ca X (dG f181) .d (cS [4]) [4] [] [.au .cP t,.int .i64 d]=f0 t d:=aa
theorem aw:f0 t d=aq (iZ t d):=by
 unfold f0 iZ rY iX;cases h:fN t with
 |false=>rfl
 |true=>
  obtain⟨h1,h2⟩:=iT h;rw[BU h,c9 (show t.length-1<t.length by omega),Gk h1,toNat_nat]
  simp only[fc,gy,eZ,oB,gU,dm,dJ,iR]
def c:Ct:=⟨181,dU (A2 (bL .cP) aI λt d=>(.bool (iZ t d))),oS call181 func181 (a2 λt d=>(run t d).trans (aw t d))⟩
end shaped
namespace KN
variable(t:ah cH)(d:Int)
def X:=dp [yk.c] 38
def f0:R:=ai (!(fN t)) (aq false) (aU (dV (i64.wrap ((Int.ofNat t.length)-(1:Int))) t.length) (aU (dV (0:Int) t.length) (ai ((List.getD t 0 cE).kx==(0:Int)) (aU (dV (0:Int) t.length) (ai ((List.getD t 0 cE).ky==(0:Int)) (ai ((List.getD t (Int.toNat (i64.wrap ((Int.ofNat t.length)-(1:Int)))) cE).kx==d) (aq (bg ((List.getD t (Int.toNat (i64.wrap ((Int.ofNat t.length)-(1:Int)))) cE).ky) (1125899906842624:Int))) (aq false)) (aq false))) (aq false))))
theorem run:ca X (dG f149) .d (cS [4]) [4] [] [.au .cP t,.int .i64 d]=f0 t d:=aa
theorem aw:f0 t d=aq (iZ t d):=by
 unfold f0 iZ rY iX;cases h:fN t with
 |false=>rfl
 |true=>
  obtain⟨h1,h2⟩:=iT h;rw[BU h,c9 (show t.length-1<t.length by omega),Gk h1,toNat_nat]
  simp only[fc,gy,eZ,oB,gU,dm,dJ,iR]
def c:Ct:=⟨149,dU (A2 (bL .cP) aI λt d=>(.bool (iZ t d))),oS call149 func149 (a2 λt d=>(run t d).trans (aw t d))⟩
end KN
namespace KU
variable(t:ah cH)
def X:=dp [yk.c] 39
def f0:R:=ai (fN t) (aU (dV (0:Int) t.length) (ai (bg (0:Int) ((List.getD t 0 cE).kx)) (aU (dV (i64.wrap ((Int.ofNat t.length)-(1:Int))) t.length) (ai (bg ((List.getD t (Int.toNat (i64.wrap ((Int.ofNat t.length)-(1:Int)))) cE).kx) (4194304:Int)) (aU (dV (0:Int) t.length) (ai (bg (0:Int) ((List.getD t 0 cE).ky)) (aU (dV (i64.wrap ((Int.ofNat t.length)-(1:Int))) t.length) (aq (bg ((List.getD t (Int.toNat (i64.wrap ((Int.ofNat t.length)-(1:Int)))) cE).ky) (1099511627776:Int)))) (aq false))) (aq false))) (aq false))) (aq false)
theorem run:ca X (dG f151) .d (cS [2]) [2] [] [.au .cP t]=f0 t:=aa
theorem aw:f0 t=aq (pG t):=by
 unfold f0 pG rY iX;cases h:fN t with
 |false=>rfl
 |true=>
  obtain⟨h1,h2⟩:=iT h;rw[BU h,c9 (show t.length-1<t.length by omega),Gk h1,toNat_nat]
  simp only[ee,eZ,oB,gU,dm,dJ,iR]
def c:Ct:=⟨151,dU (A1 (bL .cP) λt=>(.bool (pG t))),oS call151 func151 (a1 λt=>(run t).trans (aw t))⟩
end KU
theorem NR(a b:Int):(!(bz a b))=bg b a:=by
 by_cases h:a<b
 ·rw[eh h,Ji ab];rfl
 ·rw[dF h,iI ab];rfl
theorem mi(a b:Int):(!(bg a b))=bz b a:=by rw[<-NR];simp
theorem uL(n:Int):nT n= !(mo 4194304 n):=by unfold nT mo;rw[kk,mi,mi]
def pv(n:Node):Bool:=
 fj n.nn&&(mo 16777216 n.nx&&(mo 16777216 n.ny&&(mo 4194304 n.ni&&(mo 4194304 n.ng&&
  (bif n.nk==3 then bg n.ni n.ng&&((Int.ofNat n.nh.length==0)&&(!n.np&&(n.nr==0)))
   else bif(n.nk==1||n.nk==2)then !(bg n.ng n.ni)&&(iZ n.nh (i64.wrap (n.ng-n.ni))&&(bif n.np then(n.nk==2)&&(bg 0 n.nr&&bg n.nr (iX n.nh).ky)else(n.nr==0)))
   else false)))))
theorem yY{t:ah cH}{d:Int}(h:iZ t d=true):i64.wrap (Int.ofNat t.length-1)=((t.length-1:Nat):Int)/\dV ((t.length-1:Nat):Int) t.length=true:=by have ht:=(aZ.1 h).1;exact⟨BU ht,c9 (by have:=(iT ht).1;omega)⟩
namespace BJ
variable(Sc:Int)(Sb:Bool)(hA:ah UInt8)(iP:bn U El)(n:Node)
def X:=dp [uP.c,between.c,level.c,shaped.c] 101
def bd:=dG f107
def RR:bn U El:=λst=>cN (cS [2]) st (ch [2] [])
def eE:Norm U:=⟨[],[1],[1],[],[],[],[(1,6,.cP)]⟩
def dI:Norm U:=cS []
def an:gb U:=(.seq none .d (.seq (some eE) .d (.seq (some dI) (.seq none .d (.block (.seq (some (⟨[],[1,31,32],[1],[],[],[],[(1,6,.cP)]⟩)) .d (.cond (.seq (some eE) .d .d) .d)))) .d)))
abbrev Y1:=(ah UInt8)->Int->Int->Int->Int->Int->(ah cH)->Bool->Int->R
abbrev Y2:=R
abbrev Y3:=Int->Bool->(ah UInt8)->Int->Int->Int->Int->Int->(ah cH)->Bool->Int->R
abbrev Y4:=(ah UInt8)->Int->Int->Int->Int->Int->(ah cH)->Bool->Int->R
def cX(k1:Y1):R:=ai (!(fj n.nn)) (aq false) (ai (!(bg (-16777216:Int) n.nx&&bg n.nx (16777216:Int))) (aq false) (ai (!(bg (-16777216:Int) n.ny&&bg n.ny (16777216:Int))) (aq false) (aU (bU (List.length ([n.ni,n.ng]:ah Int)) 90000) (ai (!(!(List.any ([n.ni,n.ng]:ah Int) nT))) (aq false) (k1 n.nn n.nk n.nx n.ny n.ni n.ng n.nh n.np n.nr)))))
def dR(bA iA jA dA fA:Int)(aA:ah cH)(gA:Bool)(cA:Int)(k3:Y3):R:=ai (bA==(1:Int)) (k3 bA true hA bA iA jA dA fA aA gA cA) (k3 bA (bA==(2:Int)) hA bA iA jA dA fA aA gA cA)
def dQ:R:=aq false
def gf(bA iA jA dA fA:Int)(aA:ah cH)(gA:Bool)(cA:Int)(k2:Y2)(k4:Y4):R:=ai Sb (ai (bg fA dA) (aq false) (ai (!(iZ aA (i64.wrap (fA-dA)))) (aq false) (ai (bA==(1:Int)) (ai gA (aq false) (k4 hA bA iA jA dA fA aA gA cA)) (k4 hA bA iA jA dA fA aA gA cA)))) (ai (Sc==(3:Int)) (ai (bg dA fA) (ai ((Int.ofNat aA.length)==(0:Int)) (ai (!gA) (aq (cA==(0:Int))) (aq false)) (aq false)) (aq false)) (k2))
def l_(hA:ah UInt8)(bA iA jA dA fA:Int)(aA:ah cH)(gA:Bool)(cA:Int):R:=ai (!gA) (aq (cA==(0:Int))) (aU (dV (i64.wrap ((Int.ofNat aA.length)-(1:Int))) aA.length) (aq ((bg (0:Int) cA&&bg cA ((List.getD aA (Int.toNat (i64.wrap ((Int.ofNat aA.length)-(1:Int)))) cE).ky)))))
abbrev ex:=kf X bd an RR
def cQ:=ex [1,1] RR nE
def ib:=ex [1,1,1] RR nE
def mz:=ex [1,1,0,1,0,1] (bG dI iP) (cu 0 (bG dI iP) nE)
def pH:=ex [1,1,0,1,0,1,0,1] (bG dI iP) (cu 0 (bG dI iP) nE)
def f2:R:=dQ
def f4(bA iA jA dA fA:Int)(aA:ah cH)(gA:Bool)(cA:Int):R:=l_ hA bA iA jA dA fA aA gA cA
def f3(bA iA jA dA fA:Int)(aA:ah cH)(gA:Bool)(cA:Int):R:=gf Sc Sb hA bA iA jA dA fA aA gA cA f2 f4
def f1(bA iA jA dA fA:Int)(aA:ah cH)(gA:Bool)(cA:Int):R:=dR hA bA iA jA dA fA aA gA cA f3
def f0:R:=cX n f1
theorem E2:((hid ib) ⟨[],[]⟩)=f2:=by refine cm ?_;unfold f2;exact aa
theorem E4:(λhA bA iA jA dA fA aA gA cA=>(hid (pH (hid ib))) ⟨[(1,.ptr 1 0)],[(1,.box 0 [.str hA,.int .i64 bA,.int .i64 iA,.int .i64 jA,.int .i64 dA,.int .i64 fA,.au .cP aA,.bool gA,.int .i64 cA])]⟩)=f4:=by funext hA bA iA jA dA fA aA gA cA;refine cm ?_;unfold f4;exact aa
theorem E3:(λSc Sb hA bA iA jA dA fA aA gA cA=>(hid (mz (hid ib))) ⟨[(1,.ptr 1 0),(31,.int .i64 Sc),(32,.bool Sb)],[(1,.box 0 [.str hA,.int .i64 bA,.int .i64 iA,.int .i64 jA,.int .i64 dA,.int .i64 fA,.au .cP aA,.bool gA,.int .i64 cA])]⟩)=f3:=by funext Sc Sb hA bA iA jA dA fA aA gA cA;refine cm ?_;unfold f3;rw[<-E2,<-E4];exact aa
theorem E1:(λhA bA iA jA dA fA aA gA cA=>(hid cQ) ⟨[(1,.ptr 1 0)],[(1,.box 0 [.str hA,.int .i64 bA,.int .i64 iA,.int .i64 jA,.int .i64 dA,.int .i64 fA,.au .cP aA,.bool gA,.int .i64 cA])]⟩)=f1:=by funext hA bA iA jA dA fA aA gA cA;refine cm ?_;unfold f1;rw[<-E3];exact aa
theorem run:ca X bd an (cS [2]) [2] [] [eA .node n]=f0 n:=by unfold f0;rw[<-E1];exact aa
theorem L5(nn:ah UInt8)(nk nx ny ni ng:Int)(nh:ah cH)(np:Bool)(nr d:Int)(h:iZ nh d=true):f4 nn nk nx ny ni ng nh np nr=aq (bif np then bg 0 nr&&bg nr (iX nh).ky else(nr==0)):=by
 show l_ nn nk nx ny ni ng nh np nr=_;unfold l_ iX;obtain⟨h1,h2⟩:=yY h;rw[h1,h2,toNat_nat]
 cases np<;>rfl
theorem EC(x:Int)(b:Bool)(nn:ah UInt8)(nk nx ny ni ng:Int)(nh:ah cH)(np:Bool)(nr:Int):f3 x b nn nk nx ny ni ng nh np nr=
 aq (bif b then !(bg ng ni)&&(iZ nh (i64.wrap (ng-ni))&&(!((nk==1)&&np)&&(bif np then bg 0 nr&&bg nr (iX nh).ky else(nr==0))))
  else(x==3)&&(bg ni ng&&((Int.ofNat nh.length==0)&&(!np&&(nr==0))))):=by
 show gf x b nn nk nx ny ni ng nh np nr f2 f4=_;unfold gf;cases b with
 |false=>
  have:f2=aq false:=rfl;rw[this]
  simp only[gy,oB,gU,cond_false]
 |true=>
  simp only[ee,cond_true,oB]
  cases hs:iZ nh (i64.wrap (ng-ni))with
  |false=>cases bg ng ni<;>rfl
  |true=>
   rw[L5 _ _ _ _ _ _ _ _ _ _ hs]
   cases bg ng ni<;>cases(nk==1)<;>cases np<;>rfl
theorem aw:f0 n=aq (pv n):=by
 show cX n f1=_;unfold cX pv;rw[c_ (show([n.ni,n.ng]:ah Int).length<=90000 by simp)]
 have h1:f1 n.nn n.nk n.nx n.ny n.ni n.ng n.nh n.np n.nr=aq (bif n.nk==3 then bg n.ni n.ng&&((Int.ofNat n.nh.length==0)&&(!n.np&&(n.nr==0)))
  else bif(n.nk==1||n.nk==2)then !(bg n.ng n.ni)&&(iZ n.nh (i64.wrap (n.ng-n.ni))&&(bif n.np then(n.nk==2)&&(bg 0 n.nr&&bg n.nr (iX n.nh).ky)else(n.nr==0)))
  else false):=by
  show dR n.nn n.nk n.nx n.ny n.ni n.ng n.nh n.np n.nr f3=_;unfold dR;rw[EC,EC]
  by_cases e1:n.nk=1
  ·rw[e1]
   cases bg n.ng n.ni<;>cases iZ n.nh (i64.wrap (n.ng-n.ni))<;>cases n.np<;>rfl
  ·by_cases e2:n.nk=2
   ·rw[e2]
    cases bg n.ng n.ni<;>cases iZ n.nh (i64.wrap (n.ng-n.ni))<;>cases n.np<;>rfl
   ·rw[show(n.nk==1)=false by simpa using e1,show(n.nk==2)=false by simpa using e2]
    cases n.nk==3<;>rfl
 rw[h1]
 simp only[od,List.any_nil,oe,uL,oB,eZ,uj,iG]
 simp only[show∀m x,(bg (-m) x&&bg x m)=mo m x from λ_ _=>rfl,<-kk]
 unfold mo;cases fj n.nn<;>simp only[gU,ee,gy,cond_true,dm,Bool.false_and,iG,iR,uj]
def c:Ct:=⟨107,dU (A1 (aR .node) λn=>(.bool (pv n))),oS call107 func107 (a1 λn=>(run n).trans (aw n))⟩
end BJ
namespace ze
variable(R':Bool)(hA:ah UInt8)(iP:bn U El)(n:Node)
def X:=dp [rv.c,BH.c,FL.c,KN.c] 105
def bd:=dG f81
def RR:bn U El:=λst=>cN (cS [2]) st (ch [2] [])
def eE:Norm U:=⟨[],[1],[1],[],[],[],[(1,6,.cP)]⟩
def dI:Norm U:=cS []
def an:gb U:=(.seq none .d (.seq (some eE) .d (.seq (some dI) (.seq none .d (.block (.seq none .d (.cond .d (.seq (some (⟨[],[1,58],[1],[],[],[],[(1,6,.cP)]⟩)) .d (.cond (.seq (some eE) .d .d) .d)))))) .d)))
abbrev Y1:=(ah UInt8)->Int->Int->Int->Int->Int->(ah cH)->Bool->Int->R
abbrev Y2:=R
abbrev Y3:=Bool->(ah UInt8)->Int->Int->Int->Int->Int->(ah cH)->Bool->Int->R
abbrev Y4:=(ah UInt8)->Int->Int->Int->Int->Int->(ah cH)->Bool->Int->R
def cX(k1:Y1):R:=ai (!(fj n.nn)) (aq false) (ai (!(mo 16777216 n.nx)) (aq false) (ai (!(mo 16777216 n.ny)) (aq false) (ai (!(mo 4194304 n.ni)) (aq false) (ai (!(mo 4194304 n.ng)) (aq false) (k1 n.nn n.nk n.nx n.ny n.ni n.ng n.nh n.np n.nr)))))
def dR(bA iA jA dA fA:Int)(aA:ah cH)(gA:Bool)(cA:Int)(k3:Y3):R:=ai (bA==(3:Int)) (ai (bg dA fA) (ai ((Int.ofNat aA.length)==(0:Int)) (ai (!gA) (aq (cA==(0:Int))) (aq false)) (aq false)) (aq false)) (ai (bA==(1:Int)) (k3 true hA bA iA jA dA fA aA gA cA) (k3 (bA==(2:Int)) hA bA iA jA dA fA aA gA cA))
def dQ:R:=aq false
def gf(bA iA jA dA fA:Int)(aA:ah cH)(gA:Bool)(cA:Int)(k2:Y2)(k4:Y4):R:=ai R' (ai (bg fA dA) (aq false) (ai (!(iZ aA (i64.wrap (fA-dA)))) (aq false) (k4 hA bA iA jA dA fA aA gA cA))) (k2)
def l_(hA:ah UInt8)(bA iA jA dA fA:Int)(aA:ah cH)(gA:Bool)(cA:Int):R:=ai (!gA) (aq (cA==(0:Int))) (ai (bA==(2:Int)) (ai (bg (0:Int) cA) (aU (dV (i64.wrap ((Int.ofNat aA.length)-(1:Int))) aA.length) (aq (bg cA ((List.getD aA (Int.toNat (i64.wrap ((Int.ofNat aA.length)-(1:Int)))) cE).ky)))) (aq false)) (aq false))
abbrev ex:=kf X bd an RR
def cQ:=ex [1,1] RR nE
def ib:=ex [1,1,1] RR nE
def mz:=ex [1,1,0,1,0,1,1,1] (bG dI iP) (cu 0 (bG dI iP) nE)
def pH:=ex [1,1,0,1,0,1,1,1,0,1] (bG dI iP) (cu 0 (bG dI iP) nE)
def f2:R:=dQ
def f4(bA iA jA dA fA:Int)(aA:ah cH)(gA:Bool)(cA:Int):R:=l_ hA bA iA jA dA fA aA gA cA
def f3(bA iA jA dA fA:Int)(aA:ah cH)(gA:Bool)(cA:Int):R:=gf R' hA bA iA jA dA fA aA gA cA f2 f4
def f1(bA iA jA dA fA:Int)(aA:ah cH)(gA:Bool)(cA:Int):R:=dR hA bA iA jA dA fA aA gA cA f3
def f0:R:=cX n f1
theorem E2:((hid ib) ⟨[],[]⟩)=f2:=by refine cm ?_;unfold f2;exact aa
theorem E4:(λhA bA iA jA dA fA aA gA cA=>(hid (pH (hid ib))) ⟨[(1,.ptr 1 0)],[(1,.box 0 [.str hA,.int .i64 bA,.int .i64 iA,.int .i64 jA,.int .i64 dA,.int .i64 fA,.au .cP aA,.bool gA,.int .i64 cA])]⟩)=f4:=by funext hA bA iA jA dA fA aA gA cA;refine cm ?_;unfold f4;exact aa
theorem E3:(λR' hA bA iA jA dA fA aA gA cA=>(hid (mz (hid ib))) ⟨[(1,.ptr 1 0),(58,.bool R')],[(1,.box 0 [.str hA,.int .i64 bA,.int .i64 iA,.int .i64 jA,.int .i64 dA,.int .i64 fA,.au .cP aA,.bool gA,.int .i64 cA])]⟩)=f3:=by funext R' hA bA iA jA dA fA aA gA cA;refine cm ?_;unfold f3;rw[<-E2,<-E4];exact aa
theorem E1:(λhA bA iA jA dA fA aA gA cA=>(hid cQ) ⟨[(1,.ptr 1 0)],[(1,.box 0 [.str hA,.int .i64 bA,.int .i64 iA,.int .i64 jA,.int .i64 dA,.int .i64 fA,.au .cP aA,.bool gA,.int .i64 cA])]⟩)=f1:=by funext hA bA iA jA dA fA aA gA cA;refine cm ?_;unfold f1;rw[<-E3];exact aa
theorem run:ca X bd an (cS [2]) [2] [] [eA .node n]=f0 n:=by unfold f0;rw[<-E1];exact aa
theorem L5(nn:ah UInt8)(nk nx ny ni ng:Int)(nh:ah cH)(np:Bool)(nr d:Int)(h:iZ nh d=true):f4 nn nk nx ny ni ng nh np nr=aq (bif np then(nk==2)&&(bg 0 nr&&bg nr (iX nh).ky)else(nr==0)):=by
 show l_ nn nk nx ny ni ng nh np nr=_;unfold l_ iX;obtain⟨h1,h2⟩:=yY h;rw[h1,h2,toNat_nat]
 cases np
 ·rfl
 ·simp only[fc,gy,eZ,oB,gU,cond_true]
theorem EC(b:Bool)(nn:ah UInt8)(nk nx ny ni ng:Int)(nh:ah cH)(np:Bool)(nr:Int):f3 b nn nk nx ny ni ng nh np nr=
 aq (bif b then !(bg ng ni)&&(iZ nh (i64.wrap (ng-ni))&&(bif np then(nk==2)&&(bg 0 nr&&bg nr (iX nh).ky)else(nr==0)))else false):=by
 show gf b nn nk nx ny ni ng nh np nr f2 f4=_;unfold gf;cases b with
 |false=>rfl
 |true=>
  simp only[ee,cond_true,oB]
  cases hs:iZ nh (i64.wrap (ng-ni))with
  |false=>cases bg ng ni<;>rfl
  |true=>
   rw[L5 _ _ _ _ _ _ _ _ _ _ hs]
   cases bg ng ni<;>rfl
theorem aw:f0 n=aq (pv n):=by
 show cX n f1=_;unfold cX pv;have h1:f1 n.nn n.nk n.nx n.ny n.ni n.ng n.nh n.np n.nr=aq (bif n.nk==3 then bg n.ni n.ng&&((Int.ofNat n.nh.length==0)&&(!n.np&&(n.nr==0)))
  else bif(n.nk==1||n.nk==2)then !(bg n.ng n.ni)&&(iZ n.nh (i64.wrap (n.ng-n.ni))&&(bif n.np then(n.nk==2)&&(bg 0 n.nr&&bg n.nr (iX n.nh).ky)else(n.nr==0)))
  else false):=by
  show dR n.nn n.nk n.nx n.ny n.ni n.ng n.nh n.np n.nr f3=_;unfold dR;rw[EC,EC]
  simp only[oB,gU]
  cases n.nk==3
  ·cases n.nk==1<;>rfl
  ·rfl
 rw[h1]
 simp only[oB,uj,gU]
def c:Ct:=⟨81,dU (A1 (aR .node) λn=>(.bool (pv n))),oS call81 func81 (a1 λn=>(run n).trans (aw n))⟩
end ze
def VQ(x y:cH):Bool:=(x.kx==y.kx)&&((x.ky==y.ky)&&true)
def GF:ah cH->ah cH->Bool
 |[],[]=>true
 |x::a,y::b=>VQ x y&&GF a b
 |_,_=>false
def OA(a b:ah cH):Bool:=bif(Int.ofNat a.length) !=(Int.ofNat b.length)then false else GF a b
theorem JE:∀a,GF a a=true:=by
 intro a;induction a with
 |nil=>rfl
 |cons x a ih=>simp[GF,VQ,ih]
theorem Ma(a:ah cH):OA a a=true:=by unfold OA;rw[JE];simp
theorem CO(a:ah cH):OA a []=(Int.ofNat a.length==0):=by
 unfold OA;cases a with
 |nil=>rfl
 |cons x a=>simp[GF];omega
namespace L8
variable(wA xA:ah cH)(iB lA:Int)(a b:ah cH)
def X:=dp [] 26
def bd:=dG f245
def RR:bn U El:=λst=>cN (cS [4]) st (ch [4] [])
def eE:Norm U:=cS []
def dI:Norm U:=cS [0,1,12,13]
def an:gb U:=(.seq none .d (.seq none .d (.seq (some eE) (.seq none .d (.block (.loop dI .d))) .d)))
abbrev Y1:=R
abbrev Y2:=(ah cH)->(ah cH)->Int->Int->R
def fY:St U El:=⟨[(0,.au .cP wA),(1,.au .cP xA),(12,.int .i64 iB),(13,.int .i64 lA)],[]⟩
def cX(k2:Y2):R:=ai ((Int.ofNat a.length) !=(Int.ofNat b.length)) (aq false) (k2 a b (Int.ofNat a.length) (0:Int))
def dR:R:=aq true
def dQ(k1:Y1)(k2:Y2):R:=ai (bz lA iB) (aU (dV lA wA.length) (aU (dV lA xA.length) (ai (!(((wA.getD lA.toNat cE).kx==(xA.getD lA.toNat cE).kx)&&(((wA.getD lA.toNat cE).ky==(xA.getD lA.toNat cE).ky)&&true))) (aq false) (k2 wA xA iB (i64.wrap (lA+(1:Int))))))) (k1)
abbrev ex:=kf X bd an RR
abbrev it:=nO X bd an RR
def gu(gW:bn U El):=it dI [1,1,0,1,0,0] (cu 0 (bG eE gW) nE)
def cQ:=ex [1,1,1] RR nE
def f1:R:=dR
def f2:Nat->Y2
 |0=>λ_ _ _ _=>none
 |n+1=>λwA xA iB lA=>dQ wA xA iB lA f1 (f2 n)
def f0:R:=cX a b (f2 100000)
theorem E1:((hid cQ) ⟨[],[]⟩)=f1:=by refine cm ?_;unfold f1;exact aa
theorem T2:∀n,(λwA xA iB lA=>gu (hid cQ) n (fY wA xA iB lA))=f2 n:=by
 intro n;induction n with
 |zero=>rfl
 |succ n ih=>funext wA xA iB lA;rw[f2];rw[<-E1,<-ih];exact aa
theorem H2:(λwA xA iB lA=>hid (gu (hid cQ) 100000) (fY wA xA iB lA))=f2 100000:=by rw[cM];exact(T2 100000)
theorem run:ca X bd an (cS [4]) [4] [] [.au .cP a,.au .cP b]=f0 a b:=by unfold f0;rw[<-H2];exact aa
theorem loop:∀(n i:Nat) (a:ah cH),a.length=b.length->a.length<=90000->a.length<n+i->i<=a.length->f2 n a b (Int.ofNat a.length) (i:Int)=aq (GF (a.drop i) (b.drop i)):=by
 intro n;induction n with
 |zero=>intro i a h1 h2 h3 h4;omega
 |succ n ih=>
  intro i a h1 h2 h3 h4;show dQ a b (Int.ofNat a.length) (i:Int) f1 (f2 n)=_;unfold dQ;by_cases hi:i<a.length
  ·have hj:i<b.length:=ab
   rw[eh (by simp;omega),c9 hi,c9 hj,toNat_nat,bQ hi,bQ hj,fK hi,fK hj,eY i ab,ih (i+1) a h1 h2 ab hi]
   simp only[ee,eZ,GF]
   show ai (!(VQ a[i] b[i])) (aq false) _=_;cases VQ a[i] b[i]<;>rfl
  ·have e1:i=a.length:=ab
   subst e1;rw[dF ae,bH,h1,bH]
   rfl
theorem aw(h:bU a.length 90000=true):f0 a b=aq (OA a b):=by
 show cX a b (f2 100000)=_;unfold cX OA;by_cases e:a.length=b.length
 ·rw[show(Int.ofNat a.length !=Int.ofNat b.length)=false by simp[e]]
  exact loop b 100000 0 a e (ia h) (by have:=ia h;omega) ab
 ·rw[show(Int.ofNat a.length !=Int.ofNat b.length)=true by simp;omega]
  rfl
def c:Ct:=⟨245,cj (A2 (bL .cP) (bL .cP) λa b=>(bU a.length 90000,.bool (OA a b))),ir call245 func245 (a2 λa b e_=>(run a b).trans (aw a b e_))⟩
end L8
def vG(a b:cJ):Bool:=(a.ln==b.ln)&&((a.lf==b.lf)&&((a.lt==b.lt)&&((a.lk==b.lk)&&((a.ll==b.ll)&&((a.lu==b.lu)&&((a.ld==b.ld)&&((a.lc==b.lc)&&((a.lw==b.lw)&&((a.lh==b.lh)&&OA a.lv b.lv)))))))))
def ff(l:cJ):cJ:=
 bif l.lk==1 then⟨l.ln,l.lf,l.lt,l.lk,l.ll,l.lu,l.ld,l.lc,0,0,[]⟩else bif l.lk==2 then⟨l.ln,l.lf,l.lt,l.lk,0,l.lu,0,[],l.lw,0,[]⟩
 else bif l.lk==3 then⟨l.ln,l.lf,l.lt,l.lk,0,l.lu,0,[],l.lw,l.lh,[]⟩else bif l.lk==4 then⟨l.ln,l.lf,l.lt,l.lk,0,l.lu,l.ld,[],0,0,l.lv⟩else⟨l.ln,l.lf,l.lt,l.lk,0,l.lu,0,[],0,0,[]⟩
def rU(l:cJ):Bool:=
 fj l.ln&&(fj l.lf&&(fj l.lt&&(!(l.lf==l.lt)&&(mo 4194304 l.lu&&(mo 4194304 l.ld&&
  (bif l.lk==1 then(bg 1 l.ll&&bg l.ll 16777216)&&(fj l.lc&&((l.lw==0)&&((l.lh==0)&&(Int.ofNat l.lv.length==0))))
   else bif l.lk==2 then(l.ll==0)&&((l.ld==0)&&((l.lc==[])&&((bg 1 l.lw&&bg l.lw 1048576)&&((l.lh==0)&&(Int.ofNat l.lv.length==0)))))
   else bif l.lk==3 then(l.ll==0)&&((l.ld==0)&&((l.lc==[])&&((bg 1 l.lw&&bg l.lw 32768)&&((bg 1 l.lh&&bg l.lh 32768)&&(Int.ofNat l.lv.length==0)))))
   else bif l.lk==4 then(l.ll==0)&&(bz l.ld l.lu&&((l.lc==[])&&((l.lw==0)&&((l.lh==0)&&pG l.lv))))
   else false))))))
namespace Dw
variable(a b:cJ)
def X:=dp [L8.c] 80
def f0:R:=ai (a.ln==b.ln) (ai (a.lf==b.lf) (ai (a.lt==b.lt) (ai (a.lk==b.lk) (ai (a.ll==b.ll) (ai (a.lu==b.lu) (ai (a.ld==b.ld) (ai (a.lc==b.lc) (ai (a.lw==b.lw) (ai (a.lh==b.lh) (aU (bU a.lv.length 90000) (aq (OA a.lv b.lv))) (aq false)) (aq false)) (aq false)) (aq false)) (aq false)) (aq false)) (aq false)) (aq false)) (aq false)) (aq false)
theorem run:ca X (dG f183) .d (cS [4]) [4] [] [eA .link a,eA .link b]=f0 a b:=aa
theorem aw(h:bU (List.length (cJ.lv a)) 90000=true):f0 a b=aq (vG a b):=by
 unfold f0 vG;rw[h]
 simp only[eZ,oB,gU]
def c:Ct:=⟨183,cj (A2 (aR .link) (aR .link) λa b=>((bU (List.length (cJ.lv a)) 90000),.bool (vG a b))),ir call183 func183 (a2 λa b e_=>(run a b).trans (aw a b e_))⟩
end Dw
namespace plain
variable(l:cJ)
def X:=dp [] 50
def bd:=dG f184
def fM:Norm U:=⟨[],[50],[],[],[],[(50,10,.cP)],[]⟩
def RR:bn U El:=λst=>fz X 50 [(2,139)] 50 st λst=>cN fM st (ch [50] [])
def an:gb U:=(.seq none .d (.seq none .d (.seq (some (⟨[],[2,3],[2,3],[],[],[],[(3,10,.cP)]⟩)) (.seq none .d (.block (.seq none .d (.cond (.region [(7,3),(9,3),(11,3)]) (.seq none .d (.cond .d (.seq none .d (.cond (.region [(5,3),(7,3)]) (.seq none .d (.cond (.region [(5,3),(7,3)]) .d)))))))))) .d)))
abbrev Y1:=(ah UInt8)->(ah UInt8)->(ah UInt8)->Int->Int->Int->Int->(ah UInt8)->Int->Int->(ah UInt8)->(ah UInt8)->(ah UInt8)->Int->Int->Int->Int->(ah UInt8)->Int->Int->(ah cH)->R
def cX(k1:Y1):R:=ai (l.lk==(1:Int)) (k1 ([]:ah UInt8) ([]:ah UInt8) ([]:ah UInt8) (0:Int) (0:Int) (0:Int) (0:Int) ([]:ah UInt8) (0:Int) (0:Int) l.ln l.lf l.lt l.lk l.ll l.lu l.ld l.lc (0:Int) (0:Int) ([]:ah cH)) (ai (l.lk==(2:Int)) (k1 ([]:ah UInt8) ([]:ah UInt8) ([]:ah UInt8) (0:Int) (0:Int) (0:Int) (0:Int) ([]:ah UInt8) (0:Int) (0:Int) l.ln l.lf l.lt l.lk (0:Int) l.lu (0:Int) ([]:ah UInt8) l.lw (0:Int) ([]:ah cH)) (ai (l.lk==(3:Int)) (k1 ([]:ah UInt8) ([]:ah UInt8) ([]:ah UInt8) (0:Int) (0:Int) (0:Int) (0:Int) ([]:ah UInt8) (0:Int) (0:Int) l.ln l.lf l.lt l.lk (0:Int) l.lu (0:Int) ([]:ah UInt8) l.lw l.lh ([]:ah cH)) (ai (l.lk==(4:Int)) (k1 ([]:ah UInt8) ([]:ah UInt8) ([]:ah UInt8) (0:Int) (0:Int) (0:Int) (0:Int) ([]:ah UInt8) (0:Int) (0:Int) l.ln l.lf l.lt l.lk (0:Int) l.lu l.ld ([]:ah UInt8) (0:Int) (0:Int) l.lv) (k1 ([]:ah UInt8) ([]:ah UInt8) ([]:ah UInt8) (0:Int) (0:Int) (0:Int) (0:Int) ([]:ah UInt8) (0:Int) (0:Int) l.ln l.lf l.lt l.lk (0:Int) l.lu (0:Int) ([]:ah UInt8) (0:Int) (0:Int) ([]:ah cH)))))
def dR(yA zA aB:ah UInt8)(bB cB dB eB:Int)(fB:ah UInt8)(gB hB:Int)(mA nA oA:ah UInt8)(pA qA rA sA:Int)(tA:ah UInt8)(uA vA:Int)(kA:ah cH):R:=some (.agg [.str mA,.str nA,.str oA,.int .i64 pA,.int .i64 qA,.int .i64 rA,.int .i64 sA,.str tA,.int .i64 uA,.int .i64 vA,.au .cP kA],[])
abbrev ex:=kf X bd an RR
def cQ:=ex [1,1,1] RR nE
def f1(yA zA aB:ah UInt8)(bB cB dB eB:Int)(fB:ah UInt8)(gB hB:Int)(mA nA oA:ah UInt8)(pA qA rA sA:Int)(tA:ah UInt8)(uA vA:Int)(kA:ah cH):R:=dR yA zA aB bB cB dB eB fB gB hB mA nA oA pA qA rA sA tA uA vA kA
def f0:R:=cX l f1
theorem E1:(λyA zA aB bB cB dB eB fB gB hB mA nA oA pA qA rA sA tA uA vA kA=>(hid cQ) ⟨[(2,.ptr 2 0),(3,.ptr 3 0)],[(2,.box 0 [.str yA,.str zA,.str aB,.int .i64 bB,.int .i64 cB,.int .i64 dB,.int .i64 eB,.str fB,.int .i64 gB,.int .i64 hB,.cL]),(3,.box 0 [.str mA,.str nA,.str oA,.int .i64 pA,.int .i64 qA,.int .i64 rA,.int .i64 sA,.str tA,.int .i64 uA,.int .i64 vA,.au .cP kA])]⟩)=f1:=by funext yA zA aB bB cB dB eB fB gB hB mA nA oA pA qA rA sA tA uA vA kA;refine cm ?_;unfold f1;exact aa
theorem run:gH X bd an fM [(2,139)] [50] [] [.agg [.str l.ln,.str l.lf,.str l.lt,.int .i64 l.lk,.int .i64 l.ll,.int .i64 l.lu,.int .i64 l.ld,.str l.lc,.int .i64 l.lw,.int .i64 l.lh,.au .cP l.lv]]=f0 l:=by unfold f0;rw[<-E1];exact aa
theorem aw:f0 l=some (.agg [.str (ff l).ln,.str (ff l).lf,.str (ff l).lt,.int .i64 (ff l).lk,.int .i64 (ff l).ll,.int .i64 (ff l).lu,.int .i64 (ff l).ld,.str (ff l).lc,.int .i64 (ff l).lw,.int .i64 (ff l).lh,.au .cP (ff l).lv],[]):=by
 show cX l f1=_;unfold cX ff;cases l.lk==1
 ·cases l.lk==2
  ·cases l.lk==3
   ·cases l.lk==4<;>rfl
   ·rfl
  ·rfl
 ·rfl
theorem ok:bp prog X:=fV lq (ss _) pD
theorem jE:kZ prog X:=λg sp h=>by cases h
theorem spec:cV prog E 184 [(.agg [(.str l.ln),(.str l.lf),(.str l.lt),(.int .i64 l.lk),(.int .i64 l.ll),(.int .i64 l.lu),(.int .i64 l.ld),(.str l.lc),(.int .i64 l.lw),(.int .i64 l.lh),(.au .cP l.lv)])] (.agg [(.str ((ff l).ln)),(.str ((ff l).lf)),(.str ((ff l).lt)),(.int .i64 ((ff l).lk)),(.int .i64 ((ff l).ll)),(.int .i64 ((ff l).lu)),(.int .i64 ((ff l).ld)),(.str ((ff l).lc)),(.int .i64 ((ff l).lw)),(.int .i64 ((ff l).lh)),(.au .cP ((ff l).lv))]) []:=cR ok jE call184 func184 aa aa aa (by show 1<=50;decide) af (by rfl) ((run l).trans (aw l))
def sp:Sp U El:=λargs k=>match args with
 |[.agg [.str zP,.str zT,.str zO,.int .i64 zR,.int .i64 zQ,.int .i64 zN,.int .i64 zU,.str zV,.int .i64 zL,.int .i64 zS,.au .cP zM]]=>k (.agg [(.str ((ff (⟨zP,zT,zO,zR,zQ,zN,zU,zV,zL,zS,zM⟩:cJ)).ln)),(.str ((ff (⟨zP,zT,zO,zR,zQ,zN,zU,zV,zL,zS,zM⟩:cJ)).lf)),(.str ((ff (⟨zP,zT,zO,zR,zQ,zN,zU,zV,zL,zS,zM⟩:cJ)).lt)),(.int .i64 ((ff (⟨zP,zT,zO,zR,zQ,zN,zU,zV,zL,zS,zM⟩:cJ)).lk)),(.int .i64 ((ff (⟨zP,zT,zO,zR,zQ,zN,zU,zV,zL,zS,zM⟩:cJ)).ll)),(.int .i64 ((ff (⟨zP,zT,zO,zR,zQ,zN,zU,zV,zL,zS,zM⟩:cJ)).lu)),(.int .i64 ((ff (⟨zP,zT,zO,zR,zQ,zN,zU,zV,zL,zS,zM⟩:cJ)).ld)),(.str ((ff (⟨zP,zT,zO,zR,zQ,zN,zU,zV,zL,zS,zM⟩:cJ)).lc)),(.int .i64 ((ff (⟨zP,zT,zO,zR,zQ,zN,zU,zV,zL,zS,zM⟩:cJ)).lw)),(.int .i64 ((ff (⟨zP,zT,zO,zR,zQ,zN,zU,zV,zL,zS,zM⟩:cJ)).lh)),(.au .cP ((ff (⟨zP,zT,zO,zR,zQ,zN,zU,zV,zL,zS,zM⟩:cJ)).lv))]) []
 |_=>none
theorem du:gQ prog E 184 sp where
 pe:=λvs=>by
  unfold sp;split
  ·exact⟨some (_,_),λ_=>rfl⟩
  ·exact⟨none,λ_=>rfl⟩
 ok:=λvs k r h=>by
  unfold sp at h;split at h
  ·exact⟨_,_,.inl (spec ⟨_,_,_,_,_,_,_,_,_,_,_⟩),h⟩
  ·cases h
end plain
theorem FA{t:ah cH}(h:fN t=true){i:Nat}(hi:i+1<t.length):t[i].kx<t[i+1].kx/\t[i].ky<=t[i+1].ky:=by
 simp only[fN,aj]at h;have:=wx.1 h.2.2 (i+1) t[i+1] (az hi)
 simp only[kV,bZ,cF,hY,Bool.and_eq_false_iff]at this;obtain⟨_,_,h3⟩:=this;rcases h3 with h3|⟨h3,h4⟩
 ·simp[lU]at h3
 ·rw[Nat.add_sub_cancel,bQ (show i<t.length by omega)]at h3 h4;have h3:=Wt h3;have h4:=oD h4;omega
theorem yR{t:ah cH}(h:fN t=true):∀(n i:Nat) (hi:i+n<t.length),t[i].kx<=t[i+n].kx/\t[i].ky<=t[i+n].ky:=by
 intro n;induction n with
 |zero=>intro i hi;exact⟨j_ _,j_ _⟩
 |succ n ih=>
  intro i hi;have h1:=ih i ab
  have h2:=FA h (i:=i+n) ab
  exact⟨Int.le_trans h1.1 (Int.le_of_lt h2.1),Int.le_trans h1.2 h2.2⟩
theorem JM{t:ah cH}(h:fN t=true):(!(List.any t ou))=pG t:=by
 obtain⟨h1,_⟩:=iT h;rw[mh]
 unfold pG;rw[h,cF,gC]
 simp only[dm,aj,rY,iX,bQ h1,bQ (show t.length-1<t.length by omega)]
 have Q9:∀x:cH,¬ou x=true↔(0<=x.kx/\x.kx<=4194304)/\(0<=x.ky/\x.ky<=1099511627776):=λx=>by
  simp only[ou,eX,cF,not_or,Bool.not_eq_false,aj,bg,decide_eq_true_eq]
 constructor
 ·intro hall;have a:=(Q9 _).1 (hall t[0] (bW _))
  have b:=(Q9 _).1 (hall t[t.length-1] (bW _))
  exact⟨iI a.1.1,iI b.1.2,iI a.2.1,iI b.2.2⟩
 ·rintro⟨a1,a2,a3,a4⟩ x hx;obtain⟨i,hi,rfl⟩:=iv hx;have a:=yR h i 0 ab
  have b:=yR h (t.length-1-i) i ab
  simp only[bZ]at a;have e:t[i+(t.length-1-i)]'ab=t[t.length-1]'ab:=by congr 1;omega
  rw[e]at b;have a1:=ja a1;have a2:=ja a2;have a3:=ja a3;have a4:=ja a4;exact(Q9 _).2 ⟨⟨ab,ab⟩,⟨ab,ab⟩⟩
def Iq(l:cJ):Bool:=
 bif l.lk==1 then(bg 1 l.ll&&bg l.ll 16777216)&&(mo 4194304 l.ld&&fj l.lc)else bif l.lk==2 then(bg 1 l.lw&&bg l.lw 1048576)
 else bif l.lk==3 then(bg 1 l.lw&&bg l.lw 32768)&&(bg 1 l.lh&&bg l.lh 32768)else bif l.lk==4 then mo 4194304 l.ld&&(bz l.ld l.lu&&(fN l.lv&& !(List.any l.lv ou)))else false
theorem TC:mo 4194304 0=true:=rfl
theorem JN(l:cJ):(fj l.ln&&(fj l.lf&&(fj l.lt&&(!(l.lf==l.lt)&&(mo 4194304 l.lu&&(vG l (ff l)&&Iq l))))))=rU l:=by
 unfold rU;congr 1;congr 1;congr 1;congr 1;congr 1;obtain⟨ln,lf,lt,lk,ll,lu,ld,lc,lw,lh,lv⟩:=l;simp only[Iq]
 by_cases e1:lk=1
 ·subst e1;simp only[vG,ff,beq_self_eq_true,cond_true,dm,CO]
  generalize mo 4194304 ld=a,(lw==0)=b,(lh==0)=c,(Int.ofNat lv.length==0)=d,(bg 1 ll&&bg ll 16777216)=e,fj lc=f;revert a b c d e f;decide
 ·by_cases e2:lk=2
  ·subst e2;simp only[vG,ff,show((2:Int)==1)=false from rfl,cond_false,beq_self_eq_true,cond_true,dm,CO]
   by_cases hd:ld=0
   ·subst hd;rw[TC,beq_self_eq_true]
    generalize (ll==0)=a,(lc==[])=b,(lh==0)=c,(Int.ofNat lv.length==0)=d,(bg 1 lw&&bg lw 1048576)=e;revert a b c d e;decide
   ·rw[show(ld==0)=false by simpa using hd]
    generalize (ll==0)=a,(lc==[])=b,(lh==0)=c,(Int.ofNat lv.length==0)=d,(bg 1 lw&&bg lw 1048576)=e,mo 4194304 ld=f;revert a b c d e f;decide
  ·by_cases e3:lk=3
   ·subst e3;simp only[vG,ff,show((3:Int)==1)=false from rfl,show((3:Int)==2)=false from rfl,cond_false,beq_self_eq_true,cond_true,dm,CO]
    by_cases hd:ld=0
    ·subst hd;rw[TC,beq_self_eq_true]
     generalize (ll==0)=a,(lc==[])=b,(bg 1 lh&&bg lh 32768)=c,(Int.ofNat lv.length==0)=d,(bg 1 lw&&bg lw 32768)=e;revert a b c d e;decide
    ·rw[show(ld==0)=false by simpa using hd]
     generalize (ll==0)=a,(lc==[])=b,(bg 1 lh&&bg lh 32768)=c,(Int.ofNat lv.length==0)=d,(bg 1 lw&&bg lw 32768)=e,mo 4194304 ld=f;revert a b c d e f;decide
   ·by_cases e4:lk=4
    ·subst e4;simp only[vG,ff,show((4:Int)==1)=false from rfl,show((4:Int)==2)=false from rfl,show((4:Int)==3)=false from rfl,cond_false,beq_self_eq_true,cond_true,dm,Ma]
     have hc:(fN lv&& !(List.any lv ou))=pG lv:=by
      cases ht:fN lv with
      |true=>rw[JM ht];rfl
      |false=>unfold pG;rw[ht];rfl
     rw[hc]
     generalize (ll==0)=a,(lc==[])=b,(lw==0)=c,(lh==0)=d,mo 4194304 ld=e,bz ld lu=f,pG lv=g;revert a b c d e f g;decide
    ·rw[show(lk==1)=false by simpa using e1,show(lk==2)=false by simpa using e2,show(lk==3)=false by simpa using e3,show(lk==4)=false by simpa using e4]
     simp only[cond_false,gE]
theorem U7(b x:Bool):(bif b then x else false)=(b&&x):=by cases b<;>rfl
namespace BK
variable(l:cJ)
def X:=dp [uP.c,between.c,level.c,Dw.c,⟨184,plain.sp,plain.du⟩,wI.c,SB.c] 97
def bd:=dG f109
def RR:bn U El:=λst=>cN (cS [2]) st (ch [2] [])
def an:gb U:=(.seq none .d (.seq (some (⟨[],[1],[1],[],[],[],[(1,10,.cP)]⟩)) .d .d))
abbrev Y1:=(ah UInt8)->(ah UInt8)->(ah UInt8)->Int->Int->Int->Int->(ah UInt8)->Int->Int->(ah cH)->R
def cX(k1:Y1):R:=ai (!(fj l.ln)) (aq false) (ai (!(fj l.lf)) (aq false) (ai (!(fj l.lt)) (aq false) (ai (l.lf==l.lt) (aq false) (aU (bU (List.length ([l.lu]:ah Int)) 90000) (ai (!(!(List.any ([l.lu]:ah Int) nT))) (aq false) (aU (bU (List.length (cJ.lv l)) 90000) (ai (!(vG l (ff l))) (aq false) (k1 l.ln l.lf l.lt l.lk l.ll l.lu l.ld l.lc l.lw l.lh l.lv))))))))
def dR(jA kA lA:ah UInt8)(cA fA iA dA:Int)(hA:ah UInt8)(bA gA:Int)(aA:ah cH):R:=ai (cA==(1:Int)) (ai (bg (1:Int) fA&&bg fA (16777216:Int)) (aU (bU (List.length ([dA]:ah Int)) 90000) (ai (!(List.any ([dA]:ah Int) nT)) (aq (fj hA)) (aq false))) (aq false)) (ai (cA==(2:Int)) (aq (bg (1:Int) bA&&bg bA (1048576:Int))) (ai (cA==(3:Int)) (ai (bg (1:Int) bA&&bg bA (32768:Int)) (aq (bg (1:Int) gA&&bg gA (32768:Int))) (aq false)) (ai (cA==(4:Int)) (aU (bU (List.length ([dA]:ah Int)) 90000) (ai (!(List.any ([dA]:ah Int) nT)) (ai (bz dA iA) (ai (fN aA) (aU (bU aA.length 90000) (aq (!(List.any aA ou)))) (aq false)) (aq false)) (aq false))) (aq false))))
abbrev ex:=kf X bd an RR
def cQ:=ex [1,1] RR nE
def f1(jA kA lA:ah UInt8)(cA fA iA dA:Int)(hA:ah UInt8)(bA gA:Int)(aA:ah cH):R:=dR jA kA lA cA fA iA dA hA bA gA aA
def f0:R:=cX l f1
theorem E1:(λjA kA lA cA fA iA dA hA bA gA aA=>(hid cQ) ⟨[(1,.ptr 1 0)],[(1,.box 0 [.str jA,.str kA,.str lA,.int .i64 cA,.int .i64 fA,.int .i64 iA,.int .i64 dA,.str hA,.int .i64 bA,.int .i64 gA,.au .cP aA])]⟩)=f1:=by funext jA kA lA cA fA iA dA hA bA gA aA;refine cm ?_;unfold f1;exact aa
theorem run:ca X bd an (cS [2]) [2] [] [eA .link l]=f0 l:=by unfold f0;rw[<-E1];exact aa
theorem aw(h:bU (List.length (cJ.lv l)) 90000=true):f0 l=aq (rU l):=by
 rw[<-JN]
 show cX l f1=_;unfold cX;rw[h,c_ (show([l.lu]:ah Int).length<=90000 by simp)]
 have h1:f1 l.ln l.lf l.lt l.lk l.ll l.lu l.ld l.lc l.lw l.lh l.lv=aq (Iq l):=by
  show dR l.ln l.lf l.lt l.lk l.ll l.lu l.ld l.lc l.lw l.lh l.lv=_;unfold dR Iq;rw[h,c_ (show([l.ld]:ah Int).length<=90000 by simp)]
  simp only[od,List.any_nil,oe,uL,oB,eZ,iG,gU]
  simp only[cB,U7]
 rw[h1]
 simp only[od,List.any_nil,oe,uL,oB,eZ,iG,uj,gU]
 cases l.lf==l.lt<;>simp only[ee,gy,fc,iQ,Bool.false_and,dm,gE,gU]
def c:Ct:=⟨109,cj (A1 (aR .link) λl=>((bU (List.length (cJ.lv l)) 90000),.bool (rU l))),ir call109 func109 (a1 λl e_=>(run l).trans (aw l e_))⟩
end BK
namespace zf
variable(l:cJ)
def X:=dp [rv.c,FL.c,BG.c,KU.c] 160
def bd:=dG f83
def RR:bn U El:=λst=>cN (cS [2]) st (ch [2] [])
def an:gb U:=(.seq none .d (.seq (some (⟨[],[1],[1],[],[],[],[(1,10,.cP)]⟩)) .d .d))
abbrev Y1:=(ah UInt8)->(ah UInt8)->(ah UInt8)->Int->Int->Int->Int->(ah UInt8)->Int->Int->(ah cH)->R
def cX(k1:Y1):R:=ai (!(fj l.ln)) (aq false) (ai (!(fj l.lf)) (aq false) (ai (!(fj l.lt)) (aq false) (ai (l.lf==l.lt) (aq false) (ai (!(mo 4194304 l.lu)) (aq false) (ai (!(mo 4194304 l.ld)) (aq false) (k1 l.ln l.lf l.lt l.lk l.ll l.lu l.ld l.lc l.lw l.lh l.lv))))))
def dR(jA kA lA:ah UInt8)(cA fA iA dA:Int)(hA:ah UInt8)(bA gA:Int)(aA:ah cH):R:=ai (cA==(1:Int)) (ai (bg 1 fA&&bg fA (16777216:Int)) (ai (fj hA) (ai (bA==(0:Int)) (ai (gA==(0:Int)) (aq ((Int.ofNat aA.length)==(0:Int))) (aq false)) (aq false)) (aq false)) (aq false)) (ai (cA==(2:Int)) (ai (fA==(0:Int)) (ai (dA==(0:Int)) (ai (hA==([]:ah UInt8)) (ai (bg 1 bA&&bg bA (1048576:Int)) (ai (gA==(0:Int)) (aq ((Int.ofNat aA.length)==(0:Int))) (aq false)) (aq false)) (aq false)) (aq false)) (aq false)) (ai (cA==(3:Int)) (ai (fA==(0:Int)) (ai (dA==(0:Int)) (ai (hA==([]:ah UInt8)) (ai (bg 1 bA&&bg bA (32768:Int)) (ai (bg 1 gA&&bg gA (32768:Int)) (aq ((Int.ofNat aA.length)==(0:Int))) (aq false)) (aq false)) (aq false)) (aq false)) (aq false)) (ai (cA==(4:Int)) (ai (fA==(0:Int)) (ai (bz dA iA) (ai (hA==([]:ah UInt8)) (ai (bA==(0:Int)) (ai (gA==(0:Int)) (aq (pG aA)) (aq false)) (aq false)) (aq false)) (aq false)) (aq false)) (aq false))))
abbrev ex:=kf X bd an RR
def cQ:=ex [1,1] RR nE
def f1(jA kA lA:ah UInt8)(cA fA iA dA:Int)(hA:ah UInt8)(bA gA:Int)(aA:ah cH):R:=dR jA kA lA cA fA iA dA hA bA gA aA
def f0:R:=cX l f1
theorem E1:(λjA kA lA cA fA iA dA hA bA gA aA=>(hid cQ) ⟨[(1,.ptr 1 0)],[(1,.box 0 [.str jA,.str kA,.str lA,.int .i64 cA,.int .i64 fA,.int .i64 iA,.int .i64 dA,.str hA,.int .i64 bA,.int .i64 gA,.au .cP aA])]⟩)=f1:=by funext jA kA lA cA fA iA dA hA bA gA aA;refine cm ?_;unfold f1;exact aa
theorem run:ca X bd an (cS [2]) [2] [] [eA .link l]=f0 l:=by unfold f0;rw[<-E1];exact aa
theorem aw:f0 l=aq (rU l):=by
 show cX l f1=_;unfold cX rU;have h1:f1 l.ln l.lf l.lt l.lk l.ll l.lu l.ld l.lc l.lw l.lh l.lv=aq (bif l.lk==1 then(bg 1 l.ll&&bg l.ll 16777216)&&(fj l.lc&&((l.lw==0)&&((l.lh==0)&&(Int.ofNat l.lv.length==0))))
  else bif l.lk==2 then(l.ll==0)&&((l.ld==0)&&((l.lc==[])&&((bg 1 l.lw&&bg l.lw 1048576)&&((l.lh==0)&&(Int.ofNat l.lv.length==0)))))
  else bif l.lk==3 then(l.ll==0)&&((l.ld==0)&&((l.lc==[])&&((bg 1 l.lw&&bg l.lw 32768)&&((bg 1 l.lh&&bg l.lh 32768)&&(Int.ofNat l.lv.length==0)))))
  else bif l.lk==4 then(l.ll==0)&&(bz l.ld l.lu&&((l.lc==[])&&((l.lw==0)&&((l.lh==0)&&pG l.lv))))
  else false):=by
  show dR l.ln l.lf l.lt l.lk l.ll l.lu l.ld l.lc l.lw l.lh l.lv=_;unfold dR;simp only[oB,gU]
  simp only[cB,U7]
 rw[h1]
 simp only[oB,uj,gU]
 cases l.lf==l.lt<;>simp only[ee,gy,fc,iQ,Bool.false_and,dm,gE,gU]
def c:Ct:=⟨83,dU (A1 (aR .link) λl=>(.bool (rU l))),oS call83 func83 (a1 λl=>(run l).trans (aw l))⟩
end zf
def qb(n:Net)(i:Nat)(x:Node):Bool:= !(pv x)||(dX n x.nn !=(i:Int))
def lP(n:Net)(i:Nat)(x:cJ):Bool:=!(rU x)||((fu n x.ln !=(i:Int))||(bz (dX n x.lf) 0||(bz (dX n x.lt) 0||((List.getD n.ct (Int.toNat (dX n x.lf)) fU).nk==3))))
def eR(n:Net):Bool:=!(bz 300 (Int.ofNat n.ct.length))&&(!(bz 400 (Int.ofNat n.cD.length))&&(allI (λi x=> !(qb n i x)) 0 n.ct&&allI (λi x=> !(lP n i x)) 0 n.cD))
theorem tK{n:Net}{s:ah UInt8}(h:¬dX n s<0):dV (dX n s) n.ct.length=true:=by
 unfold dX at*;rcases qh (isNode s) n.ct 0 with h1|⟨h1,h2⟩
 ·omega
 ·simp only[dV,bg,bz,aj,decide_eq_true_eq];omega
namespace nS
variable(iP Fp:bn U El)(hA:ah Node)(iA gA:Int)(B8:bn U El)(n:Net)(dA:ah cJ)(fA cA:Int)
def X:=dp [BJ.c,K_.c,BK.c,nlink.c] 80
def bd:=dG f53
def RR:bn U El:=λst=>cN (cS [2]) st (ch [2] [])
def eE:Norm U:=⟨[],[1],[1],[],[],[],[(1,0,.node),(1,1,.link)]⟩
def jY:Norm U:=⟨[],[1,19,20,21],[1],[],[],[],[(1,0,.node),(1,1,.link)]⟩
def wX:Norm U:=cS []
def sV:Norm U:=⟨[],[1,39,40,41],[1],[],[],[],[(1,0,.node),(1,1,.link)]⟩
def an:gb U:=(.seq none .d (.seq (some eE) .d (.seq (some eE) (.seq none .d (.block (.loop jY (.seq none .d (.seq none .d (.seq (some jY) .d .d)))))) (.seq (some wX) (.seq none .d (.block (.loop sV (.seq none .d (.seq none .d (.seq (some sV) (.block (.seq none .d (.seq (some (⟨[],[1,6,39,40,41],[1,6],[],[],[],[(1,0,.node),(1,1,.link),(6,10,.cP)]⟩)) .d .d))) .d)))))) .d))))
abbrev Y1:=(ah Node)->(ah cJ)->R
abbrev Y2:=(ah Node)->(ah cJ)->R
abbrev Y3:=(ah Node)->Int->Int->(ah Node)->(ah cJ)->R
abbrev Y4:=(ah Node)->Int->Int->(ah Node)->(ah cJ)->R
abbrev Y5:=R
abbrev Y6:=(ah cJ)->Int->Int->(ah Node)->(ah cJ)->R
abbrev Y7:=(ah cJ)->Int->Int->(ah Node)->(ah cJ)->R
abbrev Y8:=(ah cJ)->Int->Int->(ah Node)->(ah cJ)->(ah UInt8)->(ah UInt8)->(ah UInt8)->Int->Int->Int->Int->(ah UInt8)->Int->Int->(ah cH)->R
variable(k6:Y6)
def nz(bA:ah Node)(aA:ah cJ):St U El:=⟨[(1,.ptr 1 0),(19,.au .node hA),(20,.int .i64 iA),(21,.int .i64 gA)],[(1,.box 0 [.au .node bA,.au .link aA])]⟩
def yz(bA:ah Node)(aA:ah cJ):St U El:=⟨[(1,.ptr 1 0),(39,.au .link dA),(40,.int .i64 fA),(41,.int .i64 cA)],[(1,.box 0 [.au .node bA,.au .link aA])]⟩
def cX(k1:Y1):R:=ai (bz (300:Int) (Int.ofNat n.ct.length)) (aq false) (ai (bz (400:Int) (Int.ofNat n.cD.length)) (aq false) (k1 n.ct n.cD))
def dR(bA:ah Node)(aA:ah cJ)(k3:Y3):R:=k3 bA (Int.ofNat bA.length) (0:Int) bA aA
def dQ(bA:ah Node)(aA:ah cJ)(k6:Y6):R:=k6 aA (Int.ofNat aA.length) (0:Int) bA aA
def gf(bA:ah Node)(aA:ah cJ)(k2:Y2)(k4:Y4):R:=ai (bz gA iA) (aU (dV gA hA.length) (ai (!(pv (hA.getD gA.toNat fU))) (aq false) (aU (gm (⟨bA,aA⟩:Net)) (ai ((dX (⟨bA,aA⟩:Net) ((hA.getD gA.toNat fU).nn)) !=gA) (aq false) (k4 hA iA gA bA aA))))) (k2 bA aA)
def l_(bA:ah Node)(aA:ah cJ)(k3:Y3):R:=k3 hA iA (i64.wrap (gA+(1:Int))) bA aA
def sk:R:=aq true
def pQ(bA:ah Node)(aA:ah cJ)(k5:Y5)(k8:Y8):R:=ai (bz cA fA) (aU (dV cA dA.length) (aU (bU (List.length (cJ.lv (dA.getD cA.toNat dz))) 90000) (ai (!(rU (dA.getD cA.toNat dz))) (aq false) (aU (gm (⟨bA,aA⟩:Net)) (ai ((fu (⟨bA,aA⟩:Net) ((dA.getD cA.toNat dz).ln)) !=cA) (aq false) (k8 dA fA cA bA aA ((dA.getD cA.toNat dz).ln) ((dA.getD cA.toNat dz).lf) ((dA.getD cA.toNat dz).lt) ((dA.getD cA.toNat dz).lk) ((dA.getD cA.toNat dz).ll) ((dA.getD cA.toNat dz).lu) ((dA.getD cA.toNat dz).ld) ((dA.getD cA.toNat dz).lc) ((dA.getD cA.toNat dz).lw) ((dA.getD cA.toNat dz).lh) ((dA.getD cA.toNat dz).lv))))))) (k5)
def wS(bA:ah Node)(aA:ah cJ)(k6:Y6):R:=k6 dA fA (i64.wrap (cA+(1:Int))) bA aA
def BF(bA:ah Node)(aA:ah cJ)(xA lA nA:ah UInt8)(yA zA aB bB:Int)(cB:ah UInt8)(dB eB:Int)(mA:ah cH)(k7:Y7):R:=aU (gm (⟨bA,aA⟩:Net)) (ai (bz (dX (⟨bA,aA⟩:Net) lA) (0:Int)) (aq false) (aU (gm (⟨bA,aA⟩:Net)) (ai (bz (dX (⟨bA,aA⟩:Net) nA) (0:Int)) (aq false) (aU (dV (dX (⟨bA,aA⟩:Net) lA) bA.length) (ai ((List.getD bA (Int.toNat (dX (⟨bA,aA⟩:Net) lA)) fU).nk==(3:Int)) (aq false) (k7 dA fA cA bA aA))))))
abbrev ex:=kf X bd an RR
abbrev it:=nO X bd an RR
def nU:=it jY [1,1,0,1,0,0] (cu 0 (bG eE iP) nE)
def AL:=it sV [1,1,1,0,1,0,0] (cu 2 (bG wX Fp) nE)
def cQ:=ex [1,1] RR nE
def ib:=ex [1,1,1] RR nE
def pH(oV:bn U El):=ex [1,1,0,1,0,0,1,1,1] (bG jY oV) (cu 0 (bG eE iP) nE)
def rb:=ex [1,1,1,1] RR nE
def GP(Dg:bn U El):=ex [1,1,1,0,1,0,0,1,1,1] (bG sV Dg) (cu 2 (bG wX Fp) nE)
def B5(OT:bn U El):=ex [1,1,1,0,1,0,0,1,1,0,0,1,1] (bG sV OT) (cu 3 (bG sV OT) (cu 2 (bG wX Fp) nE))
def f5:R:=sk
def f7(k6:Y6)(dA:ah cJ)(fA cA:Int)(bA:ah Node)(aA:ah cJ):R:=wS dA fA cA bA aA k6
def f8(k6:Y6)(dA:ah cJ)(fA cA:Int)(bA:ah Node)(aA:ah cJ)(xA lA nA:ah UInt8)(yA zA aB bB:Int)(cB:ah UInt8)(dB eB:Int)(mA:ah cH):R:=BF dA fA cA bA aA xA lA nA yA zA aB bB cB dB eB mA (f7 k6)
def f6:Nat->Y6
 |0=>λ_ _ _ _ _=>none
 |n+1=>λdA fA cA bA aA=>pQ dA fA cA bA aA f5 (f8 (f6 n))
def f2(bA:ah Node)(aA:ah cJ):R:=dQ bA aA (f6 100000)
def f4(k3:Y3)(hA:ah Node)(iA gA:Int)(bA:ah Node)(aA:ah cJ):R:=l_ hA iA gA bA aA k3
def f3:Nat->Y3
 |0=>λ_ _ _ _ _=>none
 |n+1=>λhA iA gA bA aA=>gf hA iA gA bA aA f2 (f4 (f3 n))
def f1(bA:ah Node)(aA:ah cJ):R:=dR bA aA (f3 100000)
def f0:R:=cX n f1
theorem E5:((hid rb) ⟨[],[]⟩)=f5:=by refine cm ?_;unfold f5;exact aa
theorem E7(h6:(λdA fA cA bA aA=>B8 (yz dA fA cA bA aA))=k6):(λdA fA cA bA aA=>(hid (GP (hid rb) B8)) ⟨[(1,.ptr 1 0),(39,.au .link dA),(40,.int .i64 fA),(41,.int .i64 cA)],[(1,.box 0 [.au .node bA,.au .link aA])]⟩)=f7 k6:=by subst h6;funext dA fA cA bA aA;refine cm ?_;unfold f7;exact aa
theorem E8(h6:(λdA fA cA bA aA=>B8 (yz dA fA cA bA aA))=k6):(λdA fA cA bA aA xA lA nA yA zA aB bB cB dB eB mA=>(hid (B5 (hid rb) (hid (GP (hid rb) B8)))) ⟨[(1,.ptr 1 0),(6,.ptr 6 0),(39,.au .link dA),(40,.int .i64 fA),(41,.int .i64 cA)],[(1,.box 0 [.au .node bA,.au .link aA]),(6,.box 0 [.str xA,.str lA,.str nA,.int .i64 yA,.int .i64 zA,.int .i64 aB,.int .i64 bB,.str cB,.int .i64 dB,.int .i64 eB,.au .cP mA])]⟩)=f8 k6:=by subst h6;funext dA fA cA bA aA xA lA nA yA zA aB bB cB dB eB mA;refine cm ?_;unfold f8;rw[<-E7 B8 _ rfl];exact aa
theorem T6:∀n,(λdA fA cA bA aA=>AL (hid rb) n (yz dA fA cA bA aA))=f6 n:=by
 intro n;induction n with
 |zero=>rfl
 |succ n ih=>funext dA fA cA bA aA;rw[f6];rw[<-E5,<-E8 (AL (hid rb) n) _ ih];exact aa
theorem H6:(λdA fA cA bA aA=>hid (AL (hid rb) 100000) (yz dA fA cA bA aA))=f6 100000:=by rw[cM];exact(T6 100000)
theorem E2:(λbA aA=>(hid ib) ⟨[(1,.ptr 1 0)],[(1,.box 0 [.au .node bA,.au .link aA])]⟩)=f2:=by funext bA aA;refine cm ?_;unfold f2;rw[<-H6];exact aa
theorem E4(pf:bn U El)(k3:Y3)(h3:(λhA iA gA bA aA=>pf (nz hA iA gA bA aA))=k3):(λhA iA gA bA aA=>(hid (pH (hid ib) pf)) ⟨[(1,.ptr 1 0),(19,.au .node hA),(20,.int .i64 iA),(21,.int .i64 gA)],[(1,.box 0 [.au .node bA,.au .link aA])]⟩)=f4 k3:=by subst h3;funext hA iA gA bA aA;refine cm ?_;unfold f4;exact aa
theorem T3:∀n,(λhA iA gA bA aA=>nU (hid ib) n (nz hA iA gA bA aA))=f3 n:=by
 intro n;induction n with
 |zero=>rfl
 |succ n ih=>funext hA iA gA bA aA;rw[f3];rw[<-E2,<-E4 (nU (hid ib) n) _ ih];exact aa
theorem H3:(λhA iA gA bA aA=>hid (nU (hid ib) 100000) (nz hA iA gA bA aA))=f3 100000:=by rw[cM];exact(T3 100000)
theorem E1:(λbA aA=>(hid cQ) ⟨[(1,.ptr 1 0)],[(1,.box 0 [.au .node bA,.au .link aA])]⟩)=f1:=by funext bA aA;refine cm ?_;unfold f1;rw[<-H3];exact aa
theorem run:ca X bd an (cS [2]) [2] [] [eA .mP n]=f0 n:=by unfold f0;rw[<-E1];exact aa
theorem aw(h:gm n=true):f0 n=aq (eR n):=by
 obtain⟨ct,cD⟩:=n;have hn:∀Ta Tl,(⟨Ta,Tl⟩:Net)=⟨Ta,Tl⟩:=λ_ _=>rfl
 have Db:=ia (o0 h)
 have qx:=ia (p_ h)
 have hv:=P8 h;simp only at Db qx hv;show cX ⟨ct,cD⟩ f1=_;unfold cX eR;simp only;by_cases h1:(300:Int)<Int.ofNat ct.length
 ·rw[eh h1];rfl
 ·by_cases h2:(400:Int)<Int.ofNat cD.length
  ·rw[dF h1,eh h2];rfl
  ·rw[dF h1,dF h2]
   show f1 ct cD=_;have e2:f2 ct cD=aq (allI (λi x=> !(lP ⟨ct,cD⟩ i x)) 0 cD):=by
    refine(jr cD ab (λn_ (_:Unit) i_=>f6 n_ cD (Int.ofNat cD.length) i_ ct cD) (λu i x k=>ai (lP ⟨ct,cD⟩ i x) (aq false) (k u)) (λ_=>aq true) (λn_ u_ i_ qy=>?_) (λn_ u_=>?_) 100000 0 () ab ab).trans ((kJ (lP ⟨ct,cD⟩) (λ_=>aq true) false cD 0).trans ?_)
    ·show pQ cD (Int.ofNat cD.length) i_ ct cD f5 (f8 (f6 n_))=ai (lP ⟨ct,cD⟩ i_ cD[i_]) (aq false) (f6 n_ cD (Int.ofNat cD.length) (i64.wrap ((i_:Int)+1)) ct cD)
     unfold pQ;rw[eh (by simp;omega),c9 qy,toNat_nat,bQ qy,hv _ (bW qy),h]
     generalize cD[i_]=x;have e8:f8 (f6 n_) cD (Int.ofNat cD.length) (i_:Int) ct cD x.ln x.lf x.lt x.lk x.ll x.lu x.ld x.lc x.lw x.lh x.lv=ai (bz (dX ⟨ct,cD⟩ x.lf) 0||(bz (dX ⟨ct,cD⟩ x.lt) 0||((List.getD ct (Int.toNat (dX ⟨ct,cD⟩ x.lf)) fU).nk==3))) (aq false) (f6 n_ cD (Int.ofNat cD.length) (i64.wrap ((i_:Int)+1)) ct cD):=by
      show BF cD (Int.ofNat cD.length) (i_:Int) ct cD x.ln x.lf x.lt x.lk x.ll x.lu x.ld x.lc x.lw x.lh x.lv (f7 (f6 n_))=_;unfold BF;rw[h]
      have e7:f7 (f6 n_) cD (Int.ofNat cD.length) (i_:Int) ct cD=f6 n_ cD (Int.ofNat cD.length) (i64.wrap ((i_:Int)+1)) ct cD:=rfl;rw[e7]
      by_cases hz:dX ⟨ct,cD⟩ x.lf<0
      ·rw[eh hz];rfl
      ·rw[dF hz,tK hz]
       simp only[eZ,gy,oB,sj,fe]
     rw[e8]
     simp only[eZ,ee,oB,sj]
     rfl
    ·show pQ cD (Int.ofNat cD.length) (cD.length:Int) ct cD f5 (f8 (f6 n_))=_;unfold pQ;rw[dF ae]
     rfl
    ·cases allI (λi x=> !lP ⟨ct,cD⟩ i x) 0 cD<;>rfl
   refine(jr ct ab (λn_ (_:Unit) i_=>f3 n_ ct (Int.ofNat ct.length) i_ ct cD) (λu i x k=>ai (qb ⟨ct,cD⟩ i x) (aq false) (k u)) (λ_=>f2 ct cD) (λn_ u_ i_ qy=>?_) (λn_ u_=>?_) 100000 0 () ab ab).trans ((kJ (qb ⟨ct,cD⟩) (λ_=>f2 ct cD) false ct 0).trans ?_)
   ·show gf ct (Int.ofNat ct.length) i_ ct cD f2 (f4 (f3 n_))=ai (qb ⟨ct,cD⟩ i_ ct[i_]) (aq false) (f3 n_ ct (Int.ofNat ct.length) (i64.wrap ((i_:Int)+1)) ct cD)
    unfold gf;rw[eh (by simp;omega),c9 qy,toNat_nat,bQ qy,h]
    have e7:f4 (f3 n_) ct (Int.ofNat ct.length) (i_:Int) ct cD=f3 n_ ct (Int.ofNat ct.length) (i64.wrap ((i_:Int)+1)) ct cD:=rfl;rw[e7]
    simp only[eZ,ee,oB,sj]
    rfl
   ·show gf ct (Int.ofNat ct.length) (ct.length:Int) ct cD f2 (f4 (f3 n_))=_;unfold gf;rw[dF ae]
    rfl
   ·rw[e2]
    exact gU aq _ _
def c:Ct:=⟨53,cj (A1 (aR .mP) λn=>(gm n,.bool (eR n))),ir call53 func53 (a1 λn e_=>(run n).trans (aw n e_))⟩
end nS
namespace Ho
variable(iP Fp B8:bn U El)(i3:Int)(n:Net)(i4:Int)
def X:=dp [tG.c,ze.c,BL.c,zf.c] 88
def bd:=dG f30
def RR:bn U El:=λst=>cN (cS [2]) st (ch [2] [])
def eE:Norm U:=⟨[],[1],[1],[],[],[],[(1,0,.node),(1,1,.link)]⟩
def jY:Norm U:=⟨[],[1,3],[1],[],[],[],[(1,0,.node),(1,1,.link)]⟩
def wX:Norm U:=cS []
def sV:Norm U:=⟨[],[1,4],[1],[],[],[],[(1,0,.node),(1,1,.link)]⟩
def an:gb U:=(.seq none .d (.seq (some eE) .d (.seq (some eE) (.seq none .d (.block (.loop jY (.seq none .d (.seq (some jY) .d .d))))) (.seq (some wX) (.seq none .d (.block (.loop sV (.seq none .d (.seq (some sV) (.block (.seq none .d (.seq (some (⟨[],[1,4,5],[1,5],[],[],[],[(1,0,.node),(1,1,.link),(5,10,.cP)]⟩)) .d .d))) .d))))) .d))))
abbrev Y1:=(ah Node)->(ah cJ)->R
abbrev Y2:=(ah Node)->(ah cJ)->R
abbrev Y3:=Int->(ah Node)->(ah cJ)->R
abbrev Y4:=Int->(ah Node)->(ah cJ)->R
abbrev Y5:=R
abbrev Y6:=Int->(ah Node)->(ah cJ)->R
abbrev Y7:=Int->(ah Node)->(ah cJ)->R
abbrev Y8:=Int->(ah Node)->(ah cJ)->(ah UInt8)->(ah UInt8)->(ah UInt8)->Int->Int->Int->Int->(ah UInt8)->Int->Int->(ah cH)->R
variable(k6:Y6)
def nz(bA:ah Node)(aA:ah cJ):St U El:=⟨[(1,.ptr 1 0),(3,.int .i64 i3)],[(1,.box 0 [.au .node bA,.au .link aA])]⟩
def yz(bA:ah Node)(aA:ah cJ):St U El:=⟨[(1,.ptr 1 0),(4,.int .i64 i4)],[(1,.box 0 [.au .node bA,.au .link aA])]⟩
def cX(k1:Y1):R:=ai (bz (300:Int) (Int.ofNat n.ct.length)) (aq false) (ai (bz (400:Int) (Int.ofNat n.cD.length)) (aq false) (k1 n.ct n.cD))
def dR(bA:ah Node)(aA:ah cJ)(k3:Y3):R:=k3 (0:Int) bA aA
def dQ(bA:ah Node)(aA:ah cJ)(k6:Y6):R:=k6 (0:Int) bA aA
def gf(bA:ah Node)(aA:ah cJ)(k2:Y2)(k4:Y4):R:=ai (bz i3 (Int.ofNat bA.length)) (aU (dV i3 bA.length) (ai (!(pv (bA.getD i3.toNat fU))) (aq false) (aU (dV i3 bA.length) (aU (gm (⟨bA,aA⟩:Net)) (ai ((dX (⟨bA,aA⟩:Net) ((bA.getD i3.toNat fU).nn)) !=i3) (aq false) (k4 i3 bA aA)))))) (k2 bA aA)
def l_(bA:ah Node)(aA:ah cJ)(k3:Y3):R:=k3 (i64.wrap (i3+(1:Int))) bA aA
def sk:R:=aq true
def pQ(bA:ah Node)(aA:ah cJ)(k5:Y5)(k8:Y8):R:=ai (bz i4 (Int.ofNat aA.length)) (aU (dV i4 aA.length) (ai (!(rU (aA.getD i4.toNat dz))) (aq false) (aU (gm (⟨bA,aA⟩:Net)) (ai ((fu (⟨bA,aA⟩:Net) ((aA.getD i4.toNat dz).ln)) !=i4) (aq false) (aU (gm (⟨bA,aA⟩:Net)) (ai (bz (dX (⟨bA,aA⟩:Net) ((aA.getD i4.toNat dz).lt)) (0:Int)) (aq false) (k8 i4 bA aA ((aA.getD i4.toNat dz).ln) ((aA.getD i4.toNat dz).lf) ((aA.getD i4.toNat dz).lt) ((aA.getD i4.toNat dz).lk) ((aA.getD i4.toNat dz).ll) ((aA.getD i4.toNat dz).lu) ((aA.getD i4.toNat dz).ld) ((aA.getD i4.toNat dz).lc) ((aA.getD i4.toNat dz).lw) ((aA.getD i4.toNat dz).lh) ((aA.getD i4.toNat dz).lv)))))))) (k5)
def wS(bA:ah Node)(aA:ah cJ)(k6:Y6):R:=k6 (i64.wrap (i4+(1:Int))) bA aA
def BF(bA:ah Node)(aA:ah cJ)(oA jA pA:ah UInt8)(qA rA sA tA:Int)(uA:ah UInt8)(vA wA:Int)(kA:ah cH)(k7:Y7):R:=aU (gm (⟨bA,aA⟩:Net)) (ai (bz (dX (⟨bA,aA⟩:Net) jA) (0:Int)) (aq false) (aU (dV (dX (⟨bA,aA⟩:Net) jA) bA.length) (ai ((List.getD bA (Int.toNat (dX (⟨bA,aA⟩:Net) jA)) fU).nk==(3:Int)) (aq false) (k7 i4 bA aA))))
abbrev ex:=kf X bd an RR
abbrev it:=nO X bd an RR
def nU:=it jY [1,1,0,1,0,0] (cu 0 (bG eE iP) nE)
def AL:=it sV [1,1,1,0,1,0,0] (cu 2 (bG wX Fp) nE)
def cQ:=ex [1,1] RR nE
def ib:=ex [1,1,1] RR nE
def pH(oV:bn U El):=ex [1,1,0,1,0,0,1,1] (bG jY oV) (cu 0 (bG eE iP) nE)
def rb:=ex [1,1,1,1] RR nE
def GP(Dg:bn U El):=ex [1,1,1,0,1,0,0,1,1] (bG sV Dg) (cu 2 (bG wX Fp) nE)
def B5(OT:bn U El):=ex [1,1,1,0,1,0,0,1,0,0,1,1] (bG sV OT) (cu 3 (bG sV OT) (cu 2 (bG wX Fp) nE))
def f5:R:=sk
def f7(k6:Y6)(i4:Int)(bA:ah Node)(aA:ah cJ):R:=wS i4 bA aA k6
def f8(k6:Y6)(i4:Int)(bA:ah Node)(aA:ah cJ)(oA jA pA:ah UInt8)(qA rA sA tA:Int)(uA:ah UInt8)(vA wA:Int)(kA:ah cH):R:=BF i4 bA aA oA jA pA qA rA sA tA uA vA wA kA (f7 k6)
def f6:Nat->Y6
 |0=>λ_ _ _=>none
 |n+1=>λi4 bA aA=>pQ i4 bA aA f5 (f8 (f6 n))
def f2(bA:ah Node)(aA:ah cJ):R:=dQ bA aA (f6 100000)
def f4(k3:Y3)(i3:Int)(bA:ah Node)(aA:ah cJ):R:=l_ i3 bA aA k3
def f3:Nat->Y3
 |0=>λ_ _ _=>none
 |n+1=>λi3 bA aA=>gf i3 bA aA f2 (f4 (f3 n))
def f1(bA:ah Node)(aA:ah cJ):R:=dR bA aA (f3 100000)
def f0:R:=cX n f1
theorem E5:((hid rb) ⟨[],[]⟩)=f5:=by refine cm ?_;unfold f5;exact aa
theorem E7(h6:(λi4 bA aA=>B8 (yz i4 bA aA))=k6):(λi4 bA aA=>(hid (GP (hid rb) B8)) ⟨[(1,.ptr 1 0),(4,.int .i64 i4)],[(1,.box 0 [.au .node bA,.au .link aA])]⟩)=f7 k6:=by subst h6;funext i4 bA aA;refine cm ?_;unfold f7;exact aa
theorem E8(h6:(λi4 bA aA=>B8 (yz i4 bA aA))=k6):(λi4 bA aA oA jA pA qA rA sA tA uA vA wA kA=>(hid (B5 (hid rb) (hid (GP (hid rb) B8)))) ⟨[(1,.ptr 1 0),(4,.int .i64 i4),(5,.ptr 5 0)],[(1,.box 0 [.au .node bA,.au .link aA]),(5,.box 0 [.str oA,.str jA,.str pA,.int .i64 qA,.int .i64 rA,.int .i64 sA,.int .i64 tA,.str uA,.int .i64 vA,.int .i64 wA,.au .cP kA])]⟩)=f8 k6:=by subst h6;funext i4 bA aA oA jA pA qA rA sA tA uA vA wA kA;refine cm ?_;unfold f8;rw[<-E7 B8 _ rfl];exact aa
theorem T6:∀n,(λi4 bA aA=>AL (hid rb) n (yz i4 bA aA))=f6 n:=by
 intro n;induction n with
 |zero=>rfl
 |succ n ih=>funext i4 bA aA;rw[f6];rw[<-E5,<-E8 (AL (hid rb) n) _ ih];exact aa
theorem H6:(λi4 bA aA=>hid (AL (hid rb) 100000) (yz i4 bA aA))=f6 100000:=by rw[cM];exact(T6 100000)
theorem E2:(λbA aA=>(hid ib) ⟨[(1,.ptr 1 0)],[(1,.box 0 [.au .node bA,.au .link aA])]⟩)=f2:=by funext bA aA;refine cm ?_;unfold f2;rw[<-H6];exact aa
theorem E4(pf:bn U El)(k3:Y3)(h3:(λi3 bA aA=>pf (nz i3 bA aA))=k3):(λi3 bA aA=>(hid (pH (hid ib) pf)) ⟨[(1,.ptr 1 0),(3,.int .i64 i3)],[(1,.box 0 [.au .node bA,.au .link aA])]⟩)=f4 k3:=by subst h3;funext i3 bA aA;refine cm ?_;unfold f4;exact aa
theorem T3:∀n,(λi3 bA aA=>nU (hid ib) n (nz i3 bA aA))=f3 n:=by
 intro n;induction n with
 |zero=>rfl
 |succ n ih=>funext i3 bA aA;rw[f3];rw[<-E2,<-E4 (nU (hid ib) n) _ ih];exact aa
theorem H3:(λi3 bA aA=>hid (nU (hid ib) 100000) (nz i3 bA aA))=f3 100000:=by rw[cM];exact(T3 100000)
theorem E1:(λbA aA=>(hid cQ) ⟨[(1,.ptr 1 0)],[(1,.box 0 [.au .node bA,.au .link aA])]⟩)=f1:=by funext bA aA;refine cm ?_;unfold f1;rw[<-H3];exact aa
theorem run:ca X bd an (cS [2]) [2] [] [eA .mP n]=f0 n:=by unfold f0;rw[<-E1];exact aa
theorem aw(h:gm n=true):f0 n=aq (eR n):=by
 obtain⟨ct,cD⟩:=n;have Db:=ia (o0 h)
 have qx:=ia (p_ h)
 simp only at Db qx;show cX ⟨ct,cD⟩ f1=_;unfold cX eR;simp only;by_cases h1:(300:Int)<Int.ofNat ct.length
 ·rw[eh h1];rfl
 ·by_cases h2:(400:Int)<Int.ofNat cD.length
  ·rw[dF h1,eh h2];rfl
  ·rw[dF h1,dF h2]
   show f1 ct cD=_;have e2:f2 ct cD=aq (allI (λi x=> !(lP ⟨ct,cD⟩ i x)) 0 cD):=by
    refine(jr cD ab (λn_ (_:Unit) i_=>f6 n_ i_ ct cD) (λu i x k=>ai (lP ⟨ct,cD⟩ i x) (aq false) (k u)) (λ_=>aq true) (λn_ u_ i_ qy=>?_) (λn_ u_=>?_) 100000 0 () ab ab).trans ((kJ (lP ⟨ct,cD⟩) (λ_=>aq true) false cD 0).trans ?_)
    ·show pQ i_ ct cD f5 (f8 (f6 n_))=ai (lP ⟨ct,cD⟩ i_ cD[i_]) (aq false) (f6 n_ (i64.wrap ((i_:Int)+1)) ct cD)
     unfold pQ;rw[eh (by simp;omega),c9 qy,toNat_nat,bQ qy,h]
     generalize cD[i_]=x;have e8:f8 (f6 n_) (i_:Int) ct cD x.ln x.lf x.lt x.lk x.ll x.lu x.ld x.lc x.lw x.lh x.lv=ai (bz (dX ⟨ct,cD⟩ x.lf) 0||((List.getD ct (Int.toNat (dX ⟨ct,cD⟩ x.lf)) fU).nk==3)) (aq false) (f6 n_ (i64.wrap ((i_:Int)+1)) ct cD):=by
      show BF (i_:Int) ct cD x.ln x.lf x.lt x.lk x.ll x.lu x.ld x.lc x.lw x.lh x.lv (f7 (f6 n_))=_;unfold BF;rw[h]
      have e7:f7 (f6 n_) (i_:Int) ct cD=f6 n_ (i64.wrap ((i_:Int)+1)) ct cD:=rfl;rw[e7]
      by_cases hz:dX ⟨ct,cD⟩ x.lf<0
      ·rw[eh hz];rfl
      ·rw[dF hz,tK hz]
       simp only[eZ,gy,oB,sj,fe]
     rw[e8]
     simp only[eZ,ee,oB,sj]
     congr 1;unfold lP;simp only;generalize ((List.getD ct (Int.toNat (dX ⟨ct,cD⟩ x.lf)) fU).nk==3)=a,bz (dX ⟨ct,cD⟩ x.lf) 0=b,bz (dX ⟨ct,cD⟩ x.lt) 0=c,(fu ⟨ct,cD⟩ x.ln !=(i_:Int))=d,rU x=e;revert a b c d e;decide
    ·show pQ (cD.length:Int) ct cD f5 (f8 (f6 n_))=_;unfold pQ;rw[dF ae]
     rfl
    ·cases allI (λi x=> !lP ⟨ct,cD⟩ i x) 0 cD<;>rfl
   refine(jr ct ab (λn_ (_:Unit) i_=>f3 n_ i_ ct cD) (λu i x k=>ai (qb ⟨ct,cD⟩ i x) (aq false) (k u)) (λ_=>f2 ct cD) (λn_ u_ i_ qy=>?_) (λn_ u_=>?_) 100000 0 () ab ab).trans ((kJ (qb ⟨ct,cD⟩) (λ_=>f2 ct cD) false ct 0).trans ?_)
   ·show gf i_ ct cD f2 (f4 (f3 n_))=ai (qb ⟨ct,cD⟩ i_ ct[i_]) (aq false) (f3 n_ (i64.wrap ((i_:Int)+1)) ct cD)
    unfold gf;rw[eh (by simp;omega),c9 qy,toNat_nat,bQ qy,h]
    have e7:f4 (f3 n_) (i_:Int) ct cD=f3 n_ (i64.wrap ((i_:Int)+1)) ct cD:=rfl;rw[e7]
    simp only[eZ,ee,oB,sj]
    rfl
   ·show gf (ct.length:Int) ct cD f2 (f4 (f3 n_))=_;unfold gf;rw[dF ae]
    rfl
   ·rw[e2]
    exact gU aq _ _
def c:Ct:=⟨30,cj (A1 (aR .mP) λn=>(gm n,.bool (eR n))),ir call30 func30 (a1 λn e_=>(run n).trans (aw n e_))⟩
end Ho
namespace Pb
variable(n:Net)(s:ah UInt8)
def X:=dp [nS.c,nlink.c,found.c] 16
def f0:R:=aU (gm n) (ai (!(eR n)) (some ((.bP [.int .i64 (0:Int),.int .i64 (1:Int)]),[])) (aU (gm n) (some ((.bP [(.int .i64 ((bif bz (fu n s) 0 then 0 else(fu n s)))),(.int .i64 ((bif bz (fu n s) 0 then 9 else 0)))]),[]))))
theorem run:ca X (dG f58) .d (cS [4,5]) [4,5] [] [eA .mP n,.str s]=f0 n s:=aa
theorem aw(h:gm n=true):f0 n s=some (.bP [.int .i64 (bif eR n then(bif bz (fu n s) 0 then 0 else fu n s)else 0),.int .i64 (bif eR n then(bif bz (fu n s) 0 then 9 else 0)else 1)],[]):=by
 unfold f0;rw[h]
 cases eR n<;>rfl
def c:Ct:=⟨58,cj (A2 (aR .mP) aS λn s=>(gm n,(.bP [(.int .i64 ((bif eR n then(bif bz (fu n s) 0 then 0 else fu n s)else 0))),(.int .i64 ((bif eR n then(bif bz (fu n s) 0 then 9 else 0)else 1)))]))),ir call58 func58 (a2 λn s e_=>(run n s).trans (aw n s e_))⟩
end Pb
theorem wY{K V:Type}(eq:K->K->Bool)(heq: ∀a b,eq a b=true↔a=b): ∀(l:ah (K×V)) (x:K) (v:V) (y:K),rS eq (qu eq l x v) y=bif eq y x then some v else rS eq l y:=by
 intro l;induction l with
 |nil=>intro x v y;rfl
 |cons p l ih=>
  intro x v y;obtain⟨k,w⟩:=p;simp only[qu,rS]
  cases h1:eq x k with
  |true=>
   have:x=k:=(heq _ _).1 h1;subst this;simp only[cond_true,rS]
   cases eq y x<;>rfl
  |false=>
   simp only[cond_false,rS,ih]
   cases h2:eq y k with
   |true=>
    have:y=k:=(heq _ _).1 h2;subst this;cases h3:eq y x with
    |true=>have:=(heq _ _).1 h3;subst this;rw[h2]at h1;cases h1
    |false=>rfl
   |false=>rfl
theorem uN(a b:ah UInt8):fh a b=true↔a=b:=by unfold fh;simp
def yd(c:r_):Bool:=fj c.cn&&mo 4194304 c.cl
def pt(r:cT):Bool:=fj r.rn&&(fj r.rl&&(!(bz 20 (Int.ofNat r.rw.length))&&((bg 0 r.rs&&bg r.rs 1000)&&List.all r.rw yd)))
def Wk(l:ah cT):Bool:=bU l.length 90000&&List.all l (λr=>bU r.rw.length 90000)
def vX:ah (ah UInt8)->ah cT->Bool
 |_,[]=>true
 |seen,r::l=>pt r&&(!(List.elem r.rn seen)&&vX (seen++[r.rn]) l)
def lx(l:ah cT):Bool:= !(bz 60 (Int.ofNat l.length))&&vX [] l
theorem Gu:∀{l:ah cT} {seen:ah (ah UInt8)},vX seen l=true->∀r∈l,pt r=true:=by
 intro l;induction l with
 |nil=>intro seen _ r hr;cases hr
 |cons x l ih=>
  intro seen h r hr;simp only[vX,aj]at h;rcases bN.1 hr with rfl|hr
  ·exact h.1
  ·exact ih h.2.2 r hr
theorem IU{r:cT}(h:pt r=true):r.rw.length<=20/\∀c∈r.rw,yd c=true:=by simp only[pt,aj,cF]at h;have:=oD h.2.2.1;simp at this;exact⟨ab,aP.1 h.2.2.2.2⟩
theorem FJ{l:ah cT}(h:lx l=true):l.length<=60/\∀r∈l,pt r=true:=by simp only[lx,aj,cF]at h;have:=oD h.1;simp at this;exact⟨ab,Gu h.2⟩
theorem Fa{α:Type}(p:α->Bool):∀(l:ah α) (i:Nat),allI (λ_ x=>p x) i l=List.all l p:=by
 intro l;induction l with
 |nil=>intro i;rfl
 |cons x l ih=>intro i;simp only[allI,ih,l6]
namespace Kl
variable(iP:bn U El)(jA:ah r_)(kA iA:Int)(r:cT)
def X:=dp [uP.c,Cg.c] 45
def bd:=dG f112
def RR:bn U El:=λst=>cN (cS [2]) st (ch [2] [])
def dI:Norm U:=cS []
def jY:Norm U:=cS [28,29,30]
def an:gb U:=(.seq none .d (.seq (some (⟨[],[1],[1],[],[],[],[(1,1,.fy)]⟩)) .d (.seq (some dI) (.seq none .d (.block (.loop jY (.seq none .d (.seq none .d (.seq (some jY) .d .d)))))) .d)))
abbrev Y1:=(ah UInt8)->(ah r_)->(ah UInt8)->Int->R
abbrev Y2:=R
abbrev Y3:=(ah r_)->Int->Int->R
abbrev Y4:=(ah r_)->Int->Int->R
def nz:St U El:=⟨[(28,.au .fy jA),(29,.int .i64 kA),(30,.int .i64 iA)],[]⟩
def cX(k1:Y1):R:=ai (!(fj r.rn)) (aq false) (ai (!(fj r.rl)) (aq false) (ai (bz (20:Int) (Int.ofNat r.rw.length)) (aq false) (ai (!(bg (0:Int) r.rs&&bg r.rs (1000:Int))) (aq false) (k1 r.rn r.rw r.rl r.rs))))
def dR(bA:ah UInt8)(aA:ah r_)(cA:ah UInt8)(dA:Int)(k3:Y3):R:=k3 aA (Int.ofNat aA.length) (0:Int)
def dQ:R:=aq true
def gf(k2:Y2)(k4:Y4):R:=ai (bz iA kA) (aU (dV iA jA.length) (ai (!(fj ((jA.getD iA.toNat Aq).cn))) (aq false) (ai (!((bg (-4194304:Int) ((jA.getD iA.toNat Aq).cl)&&bg ((jA.getD iA.toNat Aq).cl) (4194304:Int)))) (aq false) (k4 jA kA iA)))) (k2)
def l_(k3:Y3):R:=k3 jA kA (i64.wrap (iA+(1:Int)))
abbrev ex:=kf X bd an RR
abbrev it:=nO X bd an RR
def nU:=it jY [1,1,0,1,0,0] (cu 0 (bG dI iP) nE)
def cQ:=ex [1,1] RR nE
def ib:=ex [1,1,1] RR nE
def pH(oV:bn U El):=ex [1,1,0,1,0,0,1,1,1] (bG jY oV) (cu 0 (bG dI iP) nE)
def f2:R:=dQ
def f4(k3:Y3)(jA:ah r_)(kA iA:Int):R:=l_ jA kA iA k3
def f3:Nat->Y3
 |0=>λ_ _ _=>none
 |n+1=>λjA kA iA=>gf jA kA iA f2 (f4 (f3 n))
def f1(bA:ah UInt8)(aA:ah r_)(cA:ah UInt8)(dA:Int):R:=dR bA aA cA dA (f3 100000)
def f0:R:=cX r f1
theorem E2:((hid ib) ⟨[],[]⟩)=f2:=by refine cm ?_;unfold f2;exact aa
theorem E4(pf:bn U El)(k3:Y3)(h3:(λjA kA iA=>pf (nz jA kA iA))=k3):(λjA kA iA=>(hid (pH (hid ib) pf)) ⟨[(28,.au .fy jA),(29,.int .i64 kA),(30,.int .i64 iA)],[]⟩)=f4 k3:=by subst h3;funext jA kA iA;refine cm ?_;unfold f4;exact aa
theorem T3:∀n,(λjA kA iA=>nU (hid ib) n (nz jA kA iA))=f3 n:=by
 intro n;induction n with
 |zero=>rfl
 |succ n ih=>funext jA kA iA;rw[f3];rw[<-E2,<-E4 (nU (hid ib) n) _ ih];exact aa
theorem H3:(λjA kA iA=>hid (nU (hid ib) 100000) (nz jA kA iA))=f3 100000:=by rw[cM];exact(T3 100000)
theorem E1:(λbA aA cA dA=>(hid cQ) ⟨[(1,.ptr 1 0)],[(1,.box 0 [.str bA,.au .fy aA,.str cA,.int .i64 dA])]⟩)=f1:=by funext bA aA cA dA;refine cm ?_;unfold f1;rw[<-H3];exact aa
theorem run:ca X bd an (cS [2]) [2] [] [eA .eG r]=f0 r:=by unfold f0;rw[<-E1];exact aa
theorem aw:f0 r=aq (pt r):=by
 show cX r f1=_;unfold cX pt;by_cases h:(20:Int)<Int.ofNat r.rw.length
 ·rw[eh h]
  cases fj r.rn<;>cases fj r.rl<;>rfl
 ·have hl:r.rw.length<=20:=by simp at h;omega
  have h1:f1 r.rn r.rw r.rl r.rs=aq (List.all r.rw yd):=by
   refine(jr r.rw ab (λn_ (_:Unit) i_=>f3 n_ r.rw (Int.ofNat r.rw.length) i_) (λu i x k=>ai (!(yd x)) (aq false) (k u)) (λ_=>aq true) (λn_ u_ i_ qy=>?_) (λn_ u_=>?_) 100000 0 () ab ab).trans ((kJ (λ_ x=> !(yd x)) (λ_=>aq true) false r.rw 0).trans ?_)
   ·show gf r.rw (Int.ofNat r.rw.length) i_ f2 (f4 (f3 n_))=_;unfold gf yd mo;rw[eh (by simp;omega),c9 qy,toNat_nat,bQ qy]
    simp only[ee,eZ,oB,sj,kk]
    rfl
   ·show gf r.rw (Int.ofNat r.rw.length) (r.rw.length:Int) f2 (f4 (f3 n_))=_;unfold gf;rw[dF ae]
    rfl
   ·simp only[iG,Fa]
    cases List.all r.rw yd<;>rfl
  rw[h1,dF h]
  simp only[oB,uj,gU,gy,iQ,dm]
def c:Ct:=⟨112,dU (A1 (aR .eG) λr=>(.bool (pt r))),oS call112 func112 (a1 λr=>(run r).trans (aw r))⟩
end Kl
namespace Hg
variable(iP:bn U El)(i3:Int)(r:cT)
def X:=dp [rv.c] 57
def bd:=dG f86
def RR:bn U El:=λst=>cN (cS [2]) st (ch [2] [])
def dI:Norm U:=cS []
def jY:Norm U:=⟨[],[1,3],[1],[],[],[],[(1,1,.fy)]⟩
def an:gb U:=(.seq none .d (.seq (some (⟨[],[1],[1],[],[],[],[(1,1,.fy)]⟩)) .d (.seq (some dI) (.seq none .d (.block (.loop jY (.seq none .d (.seq (some jY) .d .d))))) .d)))
abbrev Y1:=(ah UInt8)->(ah r_)->(ah UInt8)->Int->R
abbrev Y2:=R
abbrev Y3:=Int->(ah UInt8)->(ah r_)->(ah UInt8)->Int->R
abbrev Y4:=Int->(ah UInt8)->(ah r_)->(ah UInt8)->Int->R
def nz(bA:ah UInt8)(aA:ah r_)(cA:ah UInt8)(dA:Int):St U El:=⟨[(1,.ptr 1 0),(3,.int .i64 i3)],[(1,.box 0 [.str bA,.au .fy aA,.str cA,.int .i64 dA])]⟩
def cX(k1:Y1):R:=ai (!(fj r.rn)) (aq false) (ai (!(fj r.rl)) (aq false) (ai (bz (20:Int) (Int.ofNat r.rw.length)) (aq false) (ai (bz r.rs (0:Int)) (aq false) (ai (bz (1000:Int) r.rs) (aq false) (k1 r.rn r.rw r.rl r.rs)))))
def dR(bA:ah UInt8)(aA:ah r_)(cA:ah UInt8)(dA:Int)(k3:Y3):R:=k3 (0:Int) bA aA cA dA
def dQ:R:=aq true
def gf(bA:ah UInt8)(aA:ah r_)(cA:ah UInt8)(dA:Int)(k2:Y2)(k4:Y4):R:=ai (bz i3 (Int.ofNat aA.length)) (aU (dV i3 aA.length) (ai (!(fj ((aA.getD i3.toNat Aq).cn))) (aq false) (ai (bz ((aA.getD i3.toNat Aq).cl) (-4194304:Int)) (aq false) (ai (bz (4194304:Int) ((aA.getD i3.toNat Aq).cl)) (aq false) (k4 i3 bA aA cA dA))))) (k2)
def l_(bA:ah UInt8)(aA:ah r_)(cA:ah UInt8)(dA:Int)(k3:Y3):R:=k3 (i64.wrap (i3+(1:Int))) bA aA cA dA
abbrev ex:=kf X bd an RR
abbrev it:=nO X bd an RR
def nU:=it jY [1,1,0,1,0,0] (cu 0 (bG dI iP) nE)
def cQ:=ex [1,1] RR nE
def ib:=ex [1,1,1] RR nE
def pH(oV:bn U El):=ex [1,1,0,1,0,0,1,1] (bG jY oV) (cu 0 (bG dI iP) nE)
def f2:R:=dQ
def f4(k3:Y3)(i3:Int)(bA:ah UInt8)(aA:ah r_)(cA:ah UInt8)(dA:Int):R:=l_ i3 bA aA cA dA k3
def f3:Nat->Y3
 |0=>λ_ _ _ _ _=>none
 |n+1=>λi3 bA aA cA dA=>gf i3 bA aA cA dA f2 (f4 (f3 n))
def f1(bA:ah UInt8)(aA:ah r_)(cA:ah UInt8)(dA:Int):R:=dR bA aA cA dA (f3 100000)
def f0:R:=cX r f1
theorem E2:((hid ib) ⟨[],[]⟩)=f2:=by refine cm ?_;unfold f2;exact aa
theorem E4(pf:bn U El)(k3:Y3)(h3:(λi3 bA aA cA dA=>pf (nz i3 bA aA cA dA))=k3):(λi3 bA aA cA dA=>(hid (pH (hid ib) pf)) ⟨[(1,.ptr 1 0),(3,.int .i64 i3)],[(1,.box 0 [.str bA,.au .fy aA,.str cA,.int .i64 dA])]⟩)=f4 k3:=by subst h3;funext i3 bA aA cA dA;refine cm ?_;unfold f4;exact aa
theorem T3:∀n,(λi3 bA aA cA dA=>nU (hid ib) n (nz i3 bA aA cA dA))=f3 n:=by
 intro n;induction n with
 |zero=>rfl
 |succ n ih=>funext i3 bA aA cA dA;rw[f3];rw[<-E2,<-E4 (nU (hid ib) n) _ ih];exact aa
theorem H3:(λi3 bA aA cA dA=>hid (nU (hid ib) 100000) (nz i3 bA aA cA dA))=f3 100000:=by rw[cM];exact(T3 100000)
theorem E1:(λbA aA cA dA=>(hid cQ) ⟨[(1,.ptr 1 0)],[(1,.box 0 [.str bA,.au .fy aA,.str cA,.int .i64 dA])]⟩)=f1:=by funext bA aA cA dA;refine cm ?_;unfold f1;rw[<-H3];exact aa
theorem run:ca X bd an (cS [2]) [2] [] [eA .eG r]=f0 r:=by unfold f0;rw[<-E1];exact aa
theorem aw:f0 r=aq (pt r):=by
 show cX r f1=_;unfold cX pt;by_cases h:(20:Int)<Int.ofNat r.rw.length
 ·rw[eh h]
  cases fj r.rn<;>cases fj r.rl<;>rfl
 ·have hl:r.rw.length<=20:=by simp at h;omega
  have h1:f1 r.rn r.rw r.rl r.rs=aq (List.all r.rw yd):=by
   refine(jr r.rw ab (λn_ (_:Unit) i_=>f3 n_ i_ r.rn r.rw r.rl r.rs) (λu i x k=>ai (!(yd x)) (aq false) (k u)) (λ_=>aq true) (λn_ u_ i_ qy=>?_) (λn_ u_=>?_) 100000 0 () ab ab).trans ((kJ (λ_ x=> !(yd x)) (λ_=>aq true) false r.rw 0).trans ?_)
   ·show gf i_ r.rn r.rw r.rl r.rs f2 (f4 (f3 n_))=_;unfold gf yd mo;rw[eh (by simp;omega),c9 qy,toNat_nat,bQ qy]
    simp only[ee,eZ,oB,sj,kk,mi]
    rfl
   ·show gf (r.rw.length:Int) r.rn r.rw r.rl r.rs f2 (f4 (f3 n_))=_;unfold gf;rw[dF ae]
    rfl
   ·simp only[iG,Fa]
    cases List.all r.rw yd<;>rfl
  rw[h1,dF h]
  simp only[oB,uj,gU,gy,iQ,dm,<-mi]
  simp only[uj,gU,iR]
def c:Ct:=⟨86,dU (A1 (aR .eG) λr=>(.bool (pt r))),oS call86 func86 (a1 λr=>(run r).trans (aw r))⟩
end Hg
namespace valid
variable(gA:ah cT)(hA fA:Int)(m9:ah ((ah UInt8)×Bool))(gW jW:bn U El)(l:ah cT)
def X:=dp [Kl.c] 29
def bd:=dG f55
def RR:bn U El:=λst=>cN (cS [2]) st (ch [2] [])
def eE:Norm U:=cS []
def dI:Norm U:=⟨[],[3,10,11,12],[9],[],[],[],[]⟩
def an:gb U:=(.seq none .d (.seq none .d (.seq none .d (.seq (some eE) (.seq none .d (.block (.loop dI (.seq none .d (.seq none .d (.seq (some dI) (.block (.seq none .d (.seq (some (⟨[],[3,5,10,11,12],[5,9],[],[],[],[(5,1,.fy)]⟩)) .d .d))) .d)))))) .d))))
abbrev Y1:=R
abbrev Y2:=(ah cT)->Int->Int->(ah ((ah UInt8)×Bool))->R
abbrev Y3:=(ah cT)->Int->Int->(ah ((ah UInt8)×Bool))->R
abbrev Y4:=(ah cT)->Int->Int->(ah UInt8)->(ah r_)->(ah UInt8)->Int->(ah ((ah UInt8)×Bool))->R
def fY:St U El:=⟨[(3,.mp 9),(10,.au .eG gA),(11,.int .i64 hA),(12,.int .i64 fA)],[(9,.map .str .bool m9)]⟩
def cX(k2:Y2):R:=ai (bz (60:Int) (Int.ofNat l.length)) (aq false) (k2 l (Int.ofNat l.length) (0:Int) ([]:ah ((ah UInt8)×Bool)))
def dR:R:=aq true
def dQ(k1:Y1)(k4:Y4):R:=ai (bz fA hA) (aU (dV fA gA.length) (ai (!(pt (gA.getD fA.toNat gJ))) (aq false) (ai (gL fh m9 ((gA.getD fA.toNat gJ).rn) jz) (aq false) (k4 gA hA fA ((gA.getD fA.toNat gJ).rn) ((gA.getD fA.toNat gJ).rw) ((gA.getD fA.toNat gJ).rl) ((gA.getD fA.toNat gJ).rs) m9)))) (k1)
def gf(k2:Y2):R:=k2 gA hA (i64.wrap (fA+(1:Int))) m9
def l_(lA:ah UInt8)(nA:ah r_)(oA:ah UInt8)(pA:Int)(m9:ah ((ah UInt8)×Bool))(k3:Y3):R:=k3 gA hA fA (qu fh m9 lA true)
abbrev ex:=kf X bd an RR
abbrev it:=nO X bd an RR
def gu:=it dI [1,1,1,0,1,0,0] (cu 0 (bG eE gW) nE)
def cQ:=ex [1,1,1,1] RR nE
def mz(iP:bn U El):=ex [1,1,1,0,1,0,0,1,1,1] (bG dI iP) (cu 0 (bG eE gW) nE)
def pH(oV:bn U El):=ex [1,1,1,0,1,0,0,1,1,0,0,1,1] (bG dI oV) (cu 1 (bG dI oV) (cu 0 (bG eE gW) nE))
def f1:R:=dR
def f3(k2:Y2)(gA:ah cT)(hA fA:Int)(m9:ah ((ah UInt8)×Bool)):R:=gf gA hA fA m9 k2
def f4(k2:Y2)(gA:ah cT)(hA fA:Int)(lA:ah UInt8)(nA:ah r_)(oA:ah UInt8)(pA:Int)(m9:ah ((ah UInt8)×Bool)):R:=l_ gA hA fA lA nA oA pA m9 (f3 k2)
def f2:Nat->Y2
 |0=>λ_ _ _ _=>none
 |n+1=>λgA hA fA m9=>dQ gA hA fA m9 f1 (f4 (f2 n))
def f0:R:=cX l (f2 100000)
theorem E1:((hid cQ) ⟨[],[]⟩)=f1:=by refine cm ?_;unfold f1;exact aa
theorem E3(k2:Y2)(h2:(λgA hA fA m9=>jW (fY gA hA fA m9))=k2):(λgA hA fA m9=>(hid (mz (hid cQ) jW)) ⟨[(3,.mp 9),(10,.au .eG gA),(11,.int .i64 hA),(12,.int .i64 fA)],[(9,.map .str .bool m9)]⟩)=f3 k2:=by subst h2;funext gA hA fA m9;refine cm ?_;unfold f3;exact aa
theorem E4(k2:Y2)(h2:(λgA hA fA m9=>jW (fY gA hA fA m9))=k2):(λgA hA fA lA nA oA pA m9=>(hid (pH (hid cQ) (hid (mz (hid cQ) jW)))) ⟨[(3,.mp 9),(5,.ptr 5 0),(10,.au .eG gA),(11,.int .i64 hA),(12,.int .i64 fA)],[(5,.box 0 [.str lA,.au .fy nA,.str oA,.int .i64 pA]),(9,.map .str .bool m9)]⟩)=f4 k2:=by subst h2;funext gA hA fA lA nA oA pA m9;refine cm ?_;unfold f4;rw[<-E3 jW _ rfl];exact aa
theorem T2:∀n,(λgA hA fA m9=>gu (hid cQ) n (fY gA hA fA m9))=f2 n:=by
 intro n;induction n with
 |zero=>rfl
 |succ n ih=>funext gA hA fA m9;rw[f2];rw[<-E1,<-E4 (gu (hid cQ) n) _ ih];exact aa
theorem H2:(λgA hA fA m9=>hid (gu (hid cQ) 100000) (fY gA hA fA m9))=f2 100000:=by rw[cM];exact(T2 100000)
theorem run:ca X bd an (cS [2]) [2] [] [.au .eG l]=f0 l:=by unfold f0;rw[<-H2];exact aa
theorem loop(hl:l.length<=60): ∀(n i:Nat) (m:ah (ah UInt8×Bool)) (seen:ah (ah UInt8)),(∀s,rS fh m s=bif List.elem s seen then some true else none)->l.length<n+i->i<=l.length->f2 n l (Int.ofNat l.length) (i:Int) m=aq (vX seen (l.drop i)):=by
 intro n;induction n with
 |zero=>intro i m seen hm h1 h2;omega
 |succ n ih=>
  intro i m seen hm h1 h2;show dQ l (Int.ofNat l.length) (i:Int) m f1 (f4 (f2 n))=_;unfold dQ;by_cases hi:i<l.length
  ·rw[eh (by simp;omega),c9 hi,toNat_nat,bQ hi,fK hi]
   have e4:f4 (f2 n) l (Int.ofNat l.length) (i:Int) l[i].rn l[i].rw l[i].rl l[i].rs m=aq (vX (seen++[l[i].rn]) (l.drop (i+1))):=by
    show f2 n l (Int.ofNat l.length) (i64.wrap ((i:Int)+1)) (qu fh m l[i].rn true)=_;rw[eY i ab]
    refine ih (i+1) _ _ (λs=>?_) ab hi;rw[wY fh uN,hm]
    have e:fh s l[i].rn=(s==l[i].rn):=rfl;rw[e]
    cases hs:(s==l[i].rn)
    ·have:(List.elem s (seen++[l[i].rn]))=List.elem s seen:=by
      rw[mh];simp only[lZ,kz,cz]
      have:¬s=l[i].rn:=by simpa using hs
      simp[this]
     rw[this];rfl
    ·have:(List.elem s (seen++[l[i].rn]))=true:=by
      simp only[lZ,kz,cz]
      exact .inr (by simpa using hs)
     rw[this];rfl
   have hg:gL fh m l[i].rn jz=List.elem l[i].rn seen:=by
    unfold gL;rw[hm];cases List.elem l[i].rn seen<;>rfl
   rw[e4,hg]
   simp only[eZ,ee,vX,oB]
   cases pt l[i]<;>cases List.elem l[i].rn seen<;>rfl
  ·have:i=l.length:=ab
   subst this;rw[dF ae,bH]
   rfl
theorem aw:f0 l=aq (lx l):=by
 show cX l (f2 100000)=_;unfold cX lx;by_cases h:(60:Int)<Int.ofNat l.length
 ·rw[eh h];rfl
 ·rw[dF h]
  have hl:l.length<=60:=by simp at h;omega
  exact loop l hl 100000 0 [] [] (λs=>rfl) ab ab
def c:Ct:=⟨55,dU (A1 (bL .eG) λl=>(.bool (lx l))),oS call55 func55 (a1 λl=>(run l).trans (aw l))⟩
end valid
namespace KL
variable(gW:bn U El)(l0:ah cT)(i3 mA:Int)(jW:bn U El)(l:ah cT)
def X:=dp [Hg.c] 36
def bd:=dG f32
def RR:bn U El:=λst=>cN (cS [2]) st (ch [2] [])
def eE:Norm U:=cS []
def dI:Norm U:=cS [0,3]
def xT:Norm U:=cS [0,3,4]
def an:gb U:=(.seq none .d (.seq none .d (.seq (some eE) (.seq none .d (.block (.loop dI (.seq none .d (.seq (some dI) (.block (.seq none .d (.seq none .d (.block (.loop xT .d))))) .d))))) .d)))
abbrev Y1:=R
abbrev Y2:=(ah cT)->Int->R
abbrev Y3:=(ah cT)->Int->R
abbrev Y4:=(ah cT)->Int->Int->R
def fY:St U El:=⟨[(0,.au .eG l0),(3,.int .i64 i3)],[]⟩
def J1:St U El:=⟨[(0,.au .eG l0),(3,.int .i64 i3),(4,.int .i64 mA)],[]⟩
def cX(k2:Y2):R:=ai (bz (60:Int) (Int.ofNat l.length)) (aq false) (k2 l (0:Int))
def dR:R:=aq true
def dQ(k1:Y1)(k4:Y4):R:=ai (bz i3 (Int.ofNat l0.length)) (aU (dV i3 l0.length) (ai (!(pt (l0.getD i3.toNat gJ))) (aq false) (k4 l0 i3 (0:Int)))) (k1)
def gf(k2:Y2):R:=k2 l0 (i64.wrap (i3+(1:Int)))
def l_(k3:Y3)(k4:Y4):R:=ai (bz mA i3) (aU (dV mA l0.length) (aU (dV i3 l0.length) (ai (((l0.getD mA.toNat gJ).rn)==((l0.getD i3.toNat gJ).rn)) (aq false) (k4 l0 i3 (i64.wrap (mA+(1:Int))))))) (k3 l0 i3)
abbrev ex:=kf X bd an RR
abbrev it:=nO X bd an RR
def gu:=it dI [1,1,0,1,0,0] (cu 0 (bG eE gW) nE)
def JY(oV:bn U El):=it xT [1,1,0,1,0,0,1,0,0,1,1,0,0] (cu 2 (bG dI oV) (cu 1 (bG dI oV) (cu 0 (bG eE gW) nE)))
def cQ:=ex [1,1,1] RR nE
def mz(iP:bn U El):=ex [1,1,0,1,0,0,1,1] (bG dI iP) (cu 0 (bG eE gW) nE)
def f1:R:=dR
def f3(k2:Y2)(l0:ah cT)(i3:Int):R:=gf l0 i3 k2
def f4(k2:Y2):Nat->Y4
 |0=>λ_ _ _=>none
 |n+1=>λl0 i3 mA=>l_ l0 i3 mA (f3 k2) (f4 k2 n)
def f2:Nat->Y2
 |0=>λ_ _=>none
 |n+1=>λl0 i3=>dQ l0 i3 f1 (f4 (f2 n) 100000)
def f0:R:=cX l (f2 100000)
theorem E1:((hid cQ) ⟨[],[]⟩)=f1:=by refine cm ?_;unfold f1;exact aa
theorem E3(k2:Y2)(h2:(λl0 i3=>jW (fY l0 i3))=k2):(λl0 i3=>(hid (mz (hid cQ) jW)) ⟨[(0,.au .eG l0),(3,.int .i64 i3)],[]⟩)=f3 k2:=by subst h2;funext l0 i3;refine cm ?_;unfold f3;exact aa
theorem T4(k2:Y2)(h2:(λl0 i3=>jW (fY l0 i3))=k2):∀n,(λl0 i3 mA=>JY (hid cQ) (hid (mz (hid cQ) jW)) n (J1 l0 i3 mA))=f4 k2 n:=by
 subst h2;intro n;induction n with
 |zero=>rfl
 |succ n ih=>funext l0 i3 mA;rw[f4];rw[<-E3 jW _ rfl,<-ih];exact aa
theorem H4(k2:Y2)(h2:(λl0 i3=>jW (fY l0 i3))=k2):(λl0 i3 mA=>hid (JY (hid cQ) (hid (mz (hid cQ) jW)) 100000) (J1 l0 i3 mA))=f4 k2 100000:=by rw[cM];exact(T4 jW k2 h2 100000)
theorem T2:∀n,(λl0 i3=>gu (hid cQ) n (fY l0 i3))=f2 n:=by
 intro n;induction n with
 |zero=>rfl
 |succ n ih=>funext l0 i3;rw[f2];rw[<-E1,<-H4 (gu (hid cQ) n) _ ih];exact aa
theorem H2:(λl0 i3=>hid (gu (hid cQ) 100000) (fY l0 i3))=f2 100000:=by rw[cM];exact(T2 100000)
theorem run:ca X bd an (cS [2]) [2] [] [.au .eG l]=f0 l:=by unfold f0;rw[<-H2];exact aa
theorem inner(hl:l.length<=60)(k2:ah cT->Int->R)(i:Nat)(hi:i<l.length):∀(n j:Nat),i<n+j->j<=i->f4 k2 n l (i:Int) (j:Int)=ai (List.elem l[i].rn (((l.take i).map cT.rn).drop j)) (aq false) (k2 l (i64.wrap ((i:Int)+1))):=by
 intro n;induction n with
 |zero=>intro j h1 h2;omega
 |succ n ih=>
  intro j h1 h2;show l_ l (i:Int) (j:Int) (f3 k2) (f4 k2 n)=_;unfold l_;by_cases hj:j<i
  ·have xI:j<((l.take i).map cT.rn).length:=by simp;omega
   rw[eh ab,c9 (show j<l.length by omega),c9 hi,toNat_nat,toNat_nat,bQ (show j<l.length by omega),bQ hi,eY j ab,ih (j+1) ab hj,fK xI]
   simp only[ee,eZ,oB,sj]
   congr 1;rw[mh]
   simp only[List.getElem_map,List.getElem_take,eX,beq_iff_eq,lZ,bN]
   exact or_congr eq_comm Iff.rfl
  ·have:j=i:=ab
   subst this;rw[dF ab,mT (by simp;omega)]
   rfl
theorem loop(hl:l.length<=60):∀(n i:Nat),l.length<n+i->i<=l.length->f2 n l (i:Int)=aq (vX ((l.take i).map cT.rn) (l.drop i)):=by
 intro n;induction n with
 |zero=>intro i h1 h2;omega
 |succ n ih=>
  intro i h1 h2;show dQ l (i:Int) f1 (f4 (f2 n) 100000)=_;unfold dQ;by_cases hi:i<l.length
  ·have e4:=inner l hl (f2 n) i hi 100000 0 ab ab
   rw[eh (by simp;omega),c9 hi,toNat_nat,bQ hi,fK hi,show((0:Int))=((0:Nat):Int)from rfl,e4,eY i ab,ih (i+1) ab hi,yg hi]
   simp only[eZ,ee,vX,oB,fq,oP,dx,jf]
   cases pt l[i]<;>cases List.elem l[i].rn ((l.take i).map cT.rn)<;>rfl
  ·have:i=l.length:=ab
   subst this;rw[dF ae,bH]
   rfl
theorem aw:f0 l=aq (lx l):=by
 show cX l (f2 100000)=_;unfold cX lx;by_cases h:(60:Int)<Int.ofNat l.length
 ·rw[eh h];rfl
 ·rw[dF h]
  have hl:l.length<=60:=by simp at h;omega
  exact loop l hl 100000 0 ab ab
def c:Ct:=⟨32,dU (A1 (bL .eG) λl=>(.bool (lx l))),oS call32 func32 (a1 λl=>(run l).trans (aw l))⟩
end KL
end
end Go.Proofs.YtfmamkmmohilgaaGreatDoor
