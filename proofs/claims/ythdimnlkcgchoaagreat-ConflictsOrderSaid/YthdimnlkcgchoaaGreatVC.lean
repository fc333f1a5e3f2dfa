import Derived.Test.YthdimnlkcgchoaaGreatVB
namespace Go.Proofs.YthdimnlkcgchoaaGreat
set_option linter.all false
set_option maxRecDepth 100000
theorem cOr2 {Q:Type} (a b:Bool) (x y:Q):condB a x (condB b x y)=condB (a||b) x y:=by cases a<;>rfl
theorem cAnd2 {Q:Type} (a b:Bool) (x y:Q):condB a (condB b x y) y=condB (a&&b) x y:=by cases a<;>rfl
theorem cNot {Q:Type} (a:Bool) (x y:Q):condB (!a) x y=condB a y x:=by cases a<;>rfl
def allI {α:Type} (p:Nat→α→Bool):Nat→List α→Bool
 | _,[]=>true
 | i,x :: l=>p i x&&allI p (i+1) l
theorem grun_bad {α:Type} (q:Nat→α→Bool) (fin:Unit→R) (b:Bool):∀ (l:List α) (i:Nat),grun (σ:=Unit) (fun _ i x k=>condB (q i x) (outB b) (k ())) fin () i l=condB (allI (fun i x => !q i x) i l) (fin ()) (outB b):=by
  intro l
  induction l with
  | nil=>intro i; rfl
  | cons x l ih =>
    intro i
    simp only [grun,allI]
    cases q i x
    · exact ih (i+1)
    · rfl
theorem allI_iff {α:Type} {p:Nat→α→Bool}:∀ {l:List α} {i:Nat},allI p i l=true↔∀ (j:Nat) x,l[j]? = some x→p (i+j) x=true:=by
  intro l
  induction l with
  | nil=>intro i; simp [allI]
  | cons y l ih =>
    intro i
    simp only [allI,Bool.and_eq_true,ih]
    constructor
    · rintro ⟨h1, h2⟩ j x hj
      cases j with
      | zero=>simp at hj; subst hj; exact h1
      | succ j=>have:=h2 j x (by simpa using hj); rwa [show i+1+j=i+(j+1) by omega] at this
    · intro h
      exact ⟨h 0 y rfl,fun j x hj=>by have:=h (j+1) x (by simpa using hj); rwa [show i+(j+1)=i+1+j by omega] at this⟩
theorem wrapM (i:Nat) (h0:0 < i) (h:i≤1000000):IntKind.wrap .i64 ((i:Int) - 1)=((i - 1:Nat):Int):=wrapP i h0 h
noncomputable def knotBad (t:List Knot) (i:Nat) (k:Knot):Bool :=
 !(inR 1125899906842624 k.kx)||(!(inR 1125899906842624 k.ky)||(nlt 0 i&&(ile k.kx (List.getD t (i - 1) d_knot).kx||ilt k.ky (List.getD t (i - 1) d_knot).ky)))
noncomputable def tableB (t:List Knot):Bool:=!(ilt (Int.ofNat t.length) 1)&&(!(ilt 100 (Int.ofNat t.length))&&allI (fun i k=>!(knotBad t i k)) 0 t)
noncomputable def lastK (t:List Knot):Knot:=List.getD t (t.length - 1) d_knot
noncomputable def headK (t:List Knot):Knot:=List.getD t 0 d_knot
noncomputable def shapeB (t:List Knot) (d:Int):Bool:=tableB t&&(((headK t).kx == 0)&&(((headK t).ky == 0)&&(((lastK t).kx == d)&&ile (lastK t).ky 1125899906842624)))
noncomputable def curveB (t:List Knot):Bool:=tableB t&&(ile 0 (headK t).kx&&(ile (lastK t).kx 4194304&&(ile 0 (headK t).ky&&ile (lastK t).ky 1099511627776)))
theorem tableB_len {t:List Knot} (h:tableB t=true):0 < t.length∧t.length≤100:=by
 simp only [tableB,Bool.and_eq_true,Bool.not_eq_true'] at h
 have h1:=iltN h.1
 have h2:=iltN h.2.1
 simp at h1 h2
 omega
theorem lastI {t:List Knot} (h:tableB t=true):IntKind.wrap .i64 (Int.ofNat t.length - 1)=((t.length - 1:Nat):Int):=by
 obtain ⟨h1,h2⟩:=tableB_len h
 exact wrapP t.length (by omega) (by omega)
namespace tvalid
noncomputable def bd:Code:=(Tryz.f154.body).getD .skip
noncomputable def X:Ctx U El:=⟨E,tds,zeros,eqs,specOf [(175,fits.sp)],100000,57,dspecOf [],fun _=>none,fun _=>none⟩
noncomputable def nmR:Norm U:=⟨[],[2],[],[],[],[],[]⟩
noncomputable def RR:Kont U El:=fun st=>normK nmR st (retFin [2] [])
noncomputable def nm1:Norm U:=⟨[],[0],[],[],[],[],[]⟩
noncomputable def nm2:Norm U:=⟨[],[],[],[],[],[],[]⟩
noncomputable def nm3:Norm U:=⟨[],[0,13,14,15],[],[],[],[],[]⟩
noncomputable def nm4:Norm U:=⟨[],[0,13,14,15],[],[],[],[],[]⟩
abbrev Y1:=(List Knot)→R
abbrev Y2:=R
abbrev Y3:=(List Knot)→(List Knot)→Int→Int→R
abbrev Y4:=(List Knot)→(List Knot)→Int→Int→R
noncomputable def fr0 (t:List Knot):St U El:=⟨[(0,(.lst .knot t))],[]⟩
noncomputable def fr1 (t0:List Knot):St U El:=⟨[(0,(.lst .knot t0))],[]⟩
noncomputable def fr2:St U El:=⟨[],[]⟩
noncomputable def fr3 (t0:List Knot) (bA:List Knot) (cA:Int) (aA:Int):St U El:=⟨[(0,(.lst .knot t0)),(13,(.lst .knot bA)),(14,(.int .i64 cA)),(15,(.int .i64 aA))],[]⟩
noncomputable def fr4 (t0:List Knot) (bA:List Knot) (cA:Int) (aA:Int):St U El:=⟨[(0,(.lst .knot t0)),(13,(.lst .knot bA)),(14,(.int .i64 cA)),(15,(.int .i64 aA))],[]⟩
noncomputable def sh0 (t:List Knot) (k1:Y1):R :=
 condB (ilt (Int.ofNat (List.length t)) (1:Int)) (some ((.bool false),[])) (condB (ilt (100:Int) (Int.ofNat (List.length t))) (some ((.bool false),[])) (k1 t))
noncomputable def sh1 (t0:List Knot) (k3:Y3):R :=
 k3 t0 t0 (Int.ofNat (List.length t0)) (0:Int)
noncomputable def sh2:R :=
 some ((.bool true),[])
noncomputable def sh3 (t0:List Knot) (bA:List Knot) (cA:Int) (aA:Int) (k2:Y2) (k4:Y4):R :=
 condB (ilt aA cA) (chk (inb aA (List.length bA)) (condB (!(inR 1125899906842624 ((List.getD bA (Int.toNat aA) d_knot).kx))) (some ((.bool false),[])) (condB (!(inR 1125899906842624 ((List.getD bA (Int.toNat aA) d_knot).ky))) (some ((.bool false),[])) (condB (ilt (0:Int) aA) (chk (inb (IntKind.wrap .i64 (aA - (1:Int))) (List.length t0)) (condB (ile ((List.getD bA (Int.toNat aA) d_knot).kx) ((List.getD t0 (Int.toNat (IntKind.wrap .i64 (aA - (1:Int)))) d_knot).kx)) (some ((.bool false),[])) (chk (inb (IntKind.wrap .i64 (aA - (1:Int))) (List.length t0)) (condB (ilt ((List.getD bA (Int.toNat aA) d_knot).ky) ((List.getD t0 (Int.toNat (IntKind.wrap .i64 (aA - (1:Int)))) d_knot).ky)) (some ((.bool false),[])) (k4 t0 bA cA aA))))) (k4 t0 bA cA aA))))) (k2)
noncomputable def sh4 (t0:List Knot) (bA:List Knot) (cA:Int) (aA:Int) (k3:Y3):R :=
 k3 t0 bA cA (IntKind.wrap .i64 (aA+(1:Int)))
noncomputable def it3 (Kb2:Kont U El) (n:Nat):Kont U El:=iter nm3 (fun st' K'=>exec X (cdp [1,1,0,1,0,0] bd) (.seq none .d (.seq none .d (.seq (some nm4) .d .d))) st' K' (Eblk 0 (cutK nm2 Kb2) (fun _ _=>none)) RR) n
noncomputable def ct1:Kont U El:=fun st=>exec X (cdp [1,1] bd) (.seq (some nm2) (.seq none .d (.block (.loop nm3 (.seq none .d (.seq none .d (.seq (some nm4) .d .d)))))) .d) st RR (fun _ _=>none) RR
noncomputable def ct2:Kont U El:=fun st=>exec X (cdp [1,1,1] bd) .d st RR (fun _ _=>none) RR
noncomputable def ct4 (Kb2 Kb3:Kont U El):Kont U El:=fun st=>exec X (cdp [1,1,0,1,0,0,1,1,1] bd) .d st (cutK nm3 Kb3) (Eblk 0 (cutK nm2 Kb2) (fun _ _=>none)) RR
theorem P0 (t):exec X (cdp [] bd) (.seq none .d (.seq (some nm1) .d (.seq (some nm2) (.seq none .d (.block (.loop nm3 (.seq none .d (.seq none .d (.seq (some nm4) .d .d)))))) .d))) (fr0 t) RR (fun _ _=>none) RR=sh0 t (fun y0=>(hid ct1) (fr1 y0)):=by kernel_rfl
theorem P1 (t0):ct1 (fr1 t0)=sh1 t0 (fun y0 y1 y2 y3=>(hid (it3 (hid ct2) 100000)) (fr3 y0 y1 y2 y3)):=by kernel_rfl
theorem P2:ct2 (fr2)=sh2:=by kernel_rfl
theorem P3 (t0 bA cA aA) (Kb2 Kb3:Kont U El):exec X (cdp [1,1,0,1,0,0] bd) (.seq none .d (.seq none .d (.seq (some nm4) .d .d))) (fr3 t0 bA cA aA) (cutK nm3 Kb3) (Eblk 0 (cutK nm2 Kb2) (fun _ _=>none)) RR=sh3 t0 bA cA aA (Kb2 (fr2)) (fun y0 y1 y2 y3=>(hid (ct4 Kb2 Kb3)) (fr4 y0 y1 y2 y3)):=by kernel_rfl
theorem P4 (t0 bA cA aA) (Kb2 Kb3:Kont U El):ct4 Kb2 Kb3 (fr4 t0 bA cA aA)=sh4 t0 bA cA aA (fun y0 y1 y2 y3=>Kb3 (fr3 y0 y1 y2 y3)):=by kernel_rfl
noncomputable def f2:R:=sh2
noncomputable def f4 (k3:Y3) (t0:List Knot) (bA:List Knot) (cA:Int) (aA:Int):R:=sh4 t0 bA cA aA k3
noncomputable def f3:Nat→Y3
 | 0=>fun _ _ _ _=>none
 | n+1=>fun t0 bA cA aA=>sh3 t0 bA cA aA f2 (f4 (f3 n))
noncomputable def f1 (t0:List Knot):R:=sh1 t0 (f3 100000)
noncomputable def f0 (t:List Knot):R:=sh0 t f1
theorem T2:(hid ct2) (fr2)=f2:=by
 refine (congrFun (hid_eq _) _).trans <| (P2).trans ?_
 show _=sh2
 rfl
theorem T4 (KL3:Kont U El) (k3:Y3) (h3:∀ t0 bA cA aA,KL3 (fr3 t0 bA cA aA)=k3 t0 bA cA aA) (t0 bA cA aA):(hid (ct4 (hid ct2) KL3)) (fr4 t0 bA cA aA)=f4 k3 t0 bA cA aA:=by
 refine (congrFun (hid_eq _) _).trans <| (P4 t0 bA cA aA (hid ct2) KL3).trans ?_
 show _=sh4 t0 bA cA aA k3
 simp only [h3]
theorem T3:∀ (n:Nat),∀ t0 bA cA aA,it3 (hid ct2) n (fr3 t0 bA cA aA)=f3 n t0 bA cA aA:=by
  intro n
  induction n with
  | zero=>intros; rfl
  | succ n ih =>
    intro t0 bA cA aA
    refine (P3 t0 bA cA aA (hid ct2) (it3 (hid ct2) n)).trans ?_
    show _=sh3 t0 bA cA aA f2 (f4 (f3 n))
    simp only [T2,T4 (it3 (hid ct2) n) (f3 n) ih]
theorem H3 (t0 bA cA aA):hid (it3 (hid ct2) 100000) (fr3 t0 bA cA aA)=f3 100000 t0 bA cA aA:=(congrFun (hid_eq _) _).trans (T3 100000 t0 bA cA aA)
theorem T1 (t0):(hid ct1) (fr1 t0)=f1 t0:=by
 refine (congrFun (hid_eq _) _).trans <| (P1 t0).trans ?_
 show _=sh1 t0 (f3 100000)
 simp only [H3]
theorem T0 (t):exec X bd (.seq none .d (.seq (some nm1) .d (.seq (some nm2) (.seq none .d (.block (.loop nm3 (.seq none .d (.seq none .d (.seq (some nm4) .d .d)))))) .d))) (fr0 t) RR (fun _ _=>none) RR=f0 t:=by
 refine (P0 t).trans ?_
 show _=sh0 t f1
 simp only [T1]
theorem run (t):runFn X bd (.seq none .d (.seq (some nm1) .d (.seq (some nm2) (.seq none .d (.block (.loop nm3 (.seq none .d (.seq none .d (.seq (some nm4) .d .d)))))) .d))) nmR [2] [] [(.lst .knot t)]=f0 t:=T0 t
theorem f0_eq (t : List Knot) : f0 t = outB (tableB t) := by
  show sh0 t f1=_
  unfold sh0 tableB
  by_cases h1:Int.ofNat t.length < 1
  · rw [iltT h1]; rfl
  · by_cases h2 : (100 : Int) < Int.ofNat t.length
    · rw [iltF h1,iltT h2]; rfl
    · rw [iltF h1, iltF h2]
      show f1 t=outB (allI (fun i k=>!(knotBad t i k)) 0 t)
      have hl:t.length≤100:=by simp at h2; omega
      refine (grun_eq t (by omega) (fun n_ (_:Unit) i_=>f3 n_ t t (Int.ofNat t.length) i_) (fun u i x k=>condB (knotBad t i x) (outB false) (k u)) (fun _=>outB true) (fun n_ u_ i_ hi_=>?_) (fun n_ u_=>?_) 100000 0 () (by omega) (by omega)).trans ((grun_bad (knotBad t) (fun _=>outB true) false t 0).trans ?_)
      · show sh3 t t (Int.ofNat t.length) i_ f2 (f4 (f3 n_)) = condB (knotBad t i_ t[i_]) (outB false) (f3 n_ t t (Int.ofNat t.length) (IntKind.wrap .i64 ((i_ : Int) + 1)))
        unfold sh3 knotBad
        rw [iltT (by simp; omega),inbT hi_,toNat_nat,getD_lt hi_]
        have hk:f4 (f3 n_) t t (Int.ofNat t.length) (i_:Int)=f3 n_ t t (Int.ofNat t.length) (IntKind.wrap .i64 ((i_:Int)+1)):=rfl
        rw [hk]
        by_cases h0:0 < i_
        · rw [iltT (by omega), wrapM i_ h0 (by omega), inbT (show i_ - 1 < t.length by omega), toNat_nat, nltT h0]
          simp only [chkT,condT,oB,cOr2,Bool.true_and]
        · rw [iltF (by omega), nltF h0]
          simp only [chkT,condT,condF,oB,cOr2,Bool.false_and,Bool.or_false]
      · show sh3 t t (Int.ofNat t.length) (t.length : Int) f2 (f4 (f3 n_)) = _
        unfold sh3
        rw [iltF (by simp)]
        rfl
      · cases allI (fun i x=>!knotBad t i x) 0 t<;>rfl
theorem ok:CtxOk Tryz.prog X:=ctxOk tab (spC fits.spOk spN) dpN
theorem okM:MOk Tryz.prog X:=fun g sp h=>by cases h
theorem spec (t:List Knot):CallSpec Tryz.prog E 154 [(.lst .knot t)] (.bool (tableB t)) [] :=
 rfs ok okM Tryz.call154 Tryz.func154 ((run t).trans (f0_eq t))
noncomputable def sp:Sp U El:=fun args k=>match args with
 | [.lst .knot t]=>k (.bool (tableB t)) []
 | _=>none
theorem spOk:SpOk Tryz.prog E 154 sp:=⟨fun vs=>by unfold sp;split;exact ⟨some (_,_),fun _=>rfl⟩;exact ⟨none,fun _=>rfl⟩,fun vs k r h=>by unfold sp at h;split at h;exact ⟨_,_,spec _,h⟩;cases h⟩
end tvalid
namespace rtvalid
noncomputable def bd:Code:=(Tryz.f145.body).getD .skip
noncomputable def X:Ctx U El:=⟨E,tds,zeros,eqs,specOf [(161,rnumber.sp)],100000,64,dspecOf [],fun _=>none,fun _=>none⟩
noncomputable def nmR:Norm U:=⟨[],[2],[],[],[],[],[]⟩
noncomputable def RR:Kont U El:=fun st=>normK nmR st (retFin [2] [])
noncomputable def nm1:Norm U:=⟨[],[0],[],[],[],[],[]⟩
noncomputable def nm2:Norm U:=⟨[],[],[],[],[],[],[]⟩
noncomputable def nm3:Norm U:=⟨[],[0,3],[],[],[],[],[]⟩
noncomputable def nm4:Norm U:=⟨[],[0,3],[],[],[],[],[]⟩
noncomputable def nm5:Norm U:=⟨[],[0,3],[],[],[],[],[]⟩
abbrev Y1:=(List Knot)→R
abbrev Y2:=R
abbrev Y3:=(List Knot)→Int→R
abbrev Y4:=(List Knot)→Int→R
abbrev Y5:=(List Knot)→Int→R
noncomputable def fr0 (t:List Knot):St U El:=⟨[(0,(.lst .knot t))],[]⟩
noncomputable def fr1 (t0:List Knot):St U El:=⟨[(0,(.lst .knot t0))],[]⟩
noncomputable def fr2:St U El:=⟨[],[]⟩
noncomputable def fr3 (t0:List Knot) (i3:Int):St U El:=⟨[(0,(.lst .knot t0)),(3,(.int .i64 i3))],[]⟩
noncomputable def fr4 (t0:List Knot) (i3:Int):St U El:=⟨[(0,(.lst .knot t0)),(3,(.int .i64 i3))],[]⟩
noncomputable def fr5 (t0:List Knot) (i3:Int):St U El:=⟨[(0,(.lst .knot t0)),(3,(.int .i64 i3))],[]⟩
noncomputable def sh0 (t:List Knot) (k1:Y1):R :=
 condB (ilt (Int.ofNat (List.length t)) (1:Int)) (some ((.bool false),[])) (condB (ilt (100:Int) (Int.ofNat (List.length t))) (some ((.bool false),[])) (k1 t))
noncomputable def sh1 (t0:List Knot) (k3:Y3):R :=
 k3 t0 (0:Int)
noncomputable def sh2:R :=
 some ((.bool true),[])
noncomputable def sh3 (t0:List Knot) (i3:Int) (k2:Y2) (k5:Y5):R :=
 condB (ilt i3 (Int.ofNat (List.length t0))) (chk (inb i3 (List.length t0)) (condB (!(inR 1125899906842624 ((List.getD t0 (Int.toNat i3) d_knot).kx))) (some ((.bool false),[])) (chk (inb i3 (List.length t0)) (condB (!(inR 1125899906842624 ((List.getD t0 (Int.toNat i3) d_knot).ky))) (some ((.bool false),[])) (k5 t0 i3))))) (k2)
noncomputable def sh4 (t0:List Knot) (i3:Int) (k3:Y3):R :=
 k3 t0 (IntKind.wrap .i64 (i3+(1:Int)))
noncomputable def sh5 (t0:List Knot) (i3:Int) (k4:Y4):R :=
 condB (ilt (0:Int) i3) (chk (inb i3 (List.length t0)) (chk (inb (IntKind.wrap .i64 (i3 - (1:Int))) (List.length t0)) (condB (ile ((List.getD t0 (Int.toNat i3) d_knot).kx) ((List.getD t0 (Int.toNat (IntKind.wrap .i64 (i3 - (1:Int)))) d_knot).kx)) (some ((.bool false),[])) (chk (inb i3 (List.length t0)) (chk (inb (IntKind.wrap .i64 (i3 - (1:Int))) (List.length t0)) (condB (ilt ((List.getD t0 (Int.toNat i3) d_knot).ky) ((List.getD t0 (Int.toNat (IntKind.wrap .i64 (i3 - (1:Int)))) d_knot).ky)) (some ((.bool false),[])) (k4 t0 i3))))))) (k4 t0 i3)
noncomputable def it3 (Kb2:Kont U El) (n:Nat):Kont U El:=iter nm3 (fun st' K'=>exec X (cdp [1,1,0,1,0,0] bd) (.seq none .d (.seq (some nm4) (.block (.seq (some nm5) .d .d)) .d)) st' K' (Eblk 0 (cutK nm2 Kb2) (fun _ _=>none)) RR) n
noncomputable def ct1:Kont U El:=fun st=>exec X (cdp [1,1] bd) (.seq (some nm2) (.seq none .d (.block (.loop nm3 (.seq none .d (.seq (some nm4) (.block (.seq (some nm5) .d .d)) .d))))) .d) st RR (fun _ _=>none) RR
noncomputable def ct2:Kont U El:=fun st=>exec X (cdp [1,1,1] bd) .d st RR (fun _ _=>none) RR
noncomputable def ct4 (Kb2 Kb3:Kont U El):Kont U El:=fun st=>exec X (cdp [1,1,0,1,0,0,1,1] bd) .d st (cutK nm3 Kb3) (Eblk 0 (cutK nm2 Kb2) (fun _ _=>none)) RR
noncomputable def ct5 (Kb2 Kb4:Kont U El):Kont U El:=fun st=>exec X (cdp [1,1,0,1,0,0,1,0,0,1] bd) .d st (cutK nm4 Kb4) (Eblk 1 (cutK nm4 Kb4) (Eblk 0 (cutK nm2 Kb2) (fun _ _=>none))) RR
theorem P0 (t):exec X (cdp [] bd) (.seq none .d (.seq (some nm1) .d (.seq (some nm2) (.seq none .d (.block (.loop nm3 (.seq none .d (.seq (some nm4) (.block (.seq (some nm5) .d .d)) .d))))) .d))) (fr0 t) RR (fun _ _=>none) RR=sh0 t (fun y0=>(hid ct1) (fr1 y0)):=by kernel_rfl
theorem P1 (t0):ct1 (fr1 t0)=sh1 t0 (fun y0 y1=>(hid (it3 (hid ct2) 100000)) (fr3 y0 y1)):=by kernel_rfl
theorem P2:ct2 (fr2)=sh2:=by kernel_rfl
theorem P3 (t0 i3) (Kb2 Kb3:Kont U El):exec X (cdp [1,1,0,1,0,0] bd) (.seq none .d (.seq (some nm4) (.block (.seq (some nm5) .d .d)) .d)) (fr3 t0 i3) (cutK nm3 Kb3) (Eblk 0 (cutK nm2 Kb2) (fun _ _=>none)) RR=sh3 t0 i3 (Kb2 (fr2)) (fun y0 y1=>(hid (ct5 Kb2 (hid (ct4 Kb2 Kb3)))) (fr5 y0 y1)):=by kernel_rfl
theorem P4 (t0 i3) (Kb2 Kb3:Kont U El):ct4 Kb2 Kb3 (fr4 t0 i3)=sh4 t0 i3 (fun y0 y1=>Kb3 (fr3 y0 y1)):=by kernel_rfl
theorem P5 (t0 i3) (Kb2 Kb4:Kont U El):ct5 Kb2 Kb4 (fr5 t0 i3)=sh5 t0 i3 (fun y0 y1=>Kb4 (fr4 y0 y1)):=by kernel_rfl
noncomputable def f2:R:=sh2
noncomputable def f4 (k3:Y3) (t0:List Knot) (i3:Int):R:=sh4 t0 i3 k3
noncomputable def f5 (k3:Y3) (t0:List Knot) (i3:Int):R:=sh5 t0 i3 (f4 k3)
noncomputable def f3:Nat→Y3
 | 0=>fun _ _=>none
 | n+1=>fun t0 i3=>sh3 t0 i3 f2 (f5 (f3 n))
noncomputable def f1 (t0:List Knot):R:=sh1 t0 (f3 100000)
noncomputable def f0 (t:List Knot):R:=sh0 t f1
theorem T2:(hid ct2) (fr2)=f2:=by
 refine (congrFun (hid_eq _) _).trans <| (P2).trans ?_
 show _=sh2
 rfl
theorem T4 (KL3:Kont U El) (k3:Y3) (h3:∀ t0 i3,KL3 (fr3 t0 i3)=k3 t0 i3) (t0 i3):(hid (ct4 (hid ct2) KL3)) (fr4 t0 i3)=f4 k3 t0 i3:=by
 refine (congrFun (hid_eq _) _).trans <| (P4 t0 i3 (hid ct2) KL3).trans ?_
 show _=sh4 t0 i3 k3
 simp only [h3]
theorem T5 (KL3:Kont U El) (k3:Y3) (h3:∀ t0 i3,KL3 (fr3 t0 i3)=k3 t0 i3) (t0 i3):(hid (ct5 (hid ct2) (hid (ct4 (hid ct2) KL3)))) (fr5 t0 i3)=f5 k3 t0 i3:=by
 refine (congrFun (hid_eq _) _).trans <| (P5 t0 i3 (hid ct2) (hid (ct4 (hid ct2) KL3))).trans ?_
 show _=sh5 t0 i3 (f4 k3)
 simp only [T4 KL3 k3 h3]
theorem T3:∀ (n:Nat),∀ t0 i3,it3 (hid ct2) n (fr3 t0 i3)=f3 n t0 i3:=by
  intro n
  induction n with
  | zero=>intros; rfl
  | succ n ih =>
    intro t0 i3
    refine (P3 t0 i3 (hid ct2) (it3 (hid ct2) n)).trans ?_
    show _=sh3 t0 i3 f2 (f5 (f3 n))
    simp only [T2,T5 (it3 (hid ct2) n) (f3 n) ih]
theorem H3 (t0 i3):hid (it3 (hid ct2) 100000) (fr3 t0 i3)=f3 100000 t0 i3:=(congrFun (hid_eq _) _).trans (T3 100000 t0 i3)
theorem T1 (t0):(hid ct1) (fr1 t0)=f1 t0:=by
 refine (congrFun (hid_eq _) _).trans <| (P1 t0).trans ?_
 show _=sh1 t0 (f3 100000)
 simp only [H3]
theorem T0 (t):exec X bd (.seq none .d (.seq (some nm1) .d (.seq (some nm2) (.seq none .d (.block (.loop nm3 (.seq none .d (.seq (some nm4) (.block (.seq (some nm5) .d .d)) .d))))) .d))) (fr0 t) RR (fun _ _=>none) RR=f0 t:=by
 refine (P0 t).trans ?_
 show _=sh0 t f1
 simp only [T1]
theorem run (t):runFn X bd (.seq none .d (.seq (some nm1) .d (.seq (some nm2) (.seq none .d (.block (.loop nm3 (.seq none .d (.seq (some nm4) (.block (.seq (some nm5) .d .d)) .d))))) .d))) nmR [2] [] [(.lst .knot t)]=f0 t:=T0 t
theorem f0_eq (t : List Knot) : f0 t = outB (tableB t) := by
  show sh0 t f1=_
  unfold sh0 tableB
  by_cases h1:Int.ofNat t.length < 1
  · rw [iltT h1]; rfl
  · by_cases h2 : (100 : Int) < Int.ofNat t.length
    · rw [iltF h1,iltT h2]; rfl
    · rw [iltF h1, iltF h2]
      show f1 t=outB (allI (fun i k=>!(knotBad t i k)) 0 t)
      have hl:t.length≤100:=by simp at h2; omega
      refine (grun_eq t (by omega) (fun n_ (_:Unit) i_=>f3 n_ t i_) (fun u i x k=>condB (knotBad t i x) (outB false) (k u)) (fun _=>outB true) (fun n_ u_ i_ hi_=>?_) (fun n_ u_=>?_) 100000 0 () (by omega) (by omega)).trans ((grun_bad (knotBad t) (fun _=>outB true) false t 0).trans ?_)
      · show sh3 t i_ f2 (f5 (f3 n_)) = condB (knotBad t i_ t[i_]) (outB false) (f3 n_ t (IntKind.wrap .i64 ((i_ : Int) + 1)))
        unfold sh3 knotBad
        rw [iltT (by simp; omega),inbT hi_,toNat_nat,getD_lt hi_]
        have hk:f5 (f3 n_) t (i_:Int)=condB (nlt 0 i_&&(ile t[i_].kx (List.getD t (i_ - 1) d_knot).kx||ilt t[i_].ky (List.getD t (i_ - 1) d_knot).ky)) (outB false) (f3 n_ t (IntKind.wrap .i64 ((i_:Int)+1))):=by
          show sh5 t (i_:Int) (f4 (f3 n_))=_
          unfold sh5
          have hk:f4 (f3 n_) t (i_:Int)=f3 n_ t (IntKind.wrap .i64 ((i_:Int)+1)):=rfl
          rw [hk]
          by_cases h0:0 < i_
          · rw [iltT (by omega), wrapM i_ h0 (by omega), inbT (show i_ - 1 < t.length by omega), inbT hi_, toNat_nat, toNat_nat, getD_lt hi_, nltT h0]
            simp only [chkT,condT,oB,cOr2,Bool.true_and]
          · rw [iltF (by omega), nltF h0]
            rfl
        rw [hk]
        simp only [chkT,condT,oB,cOr2]
      · show sh3 t (t.length : Int) f2 (f5 (f3 n_)) = _
        unfold sh3
        rw [iltF (by simp)]
        rfl
      · cases allI (fun i x=>!knotBad t i x) 0 t<;>rfl
theorem ok:CtxOk Tryz.prog X:=ctxOk tab (spC rnumber.spOk spN) dpN
theorem okM:MOk Tryz.prog X:=fun g sp h=>by cases h
theorem spec (t:List Knot):CallSpec Tryz.prog E 145 [(.lst .knot t)] (.bool (tableB t)) [] :=
 rfs ok okM Tryz.call145 Tryz.func145 ((run t).trans (f0_eq t))
noncomputable def sp:Sp U El:=fun args k=>match args with
 | [.lst .knot t]=>k (.bool (tableB t)) []
 | _=>none
theorem spOk:SpOk Tryz.prog E 145 sp:=⟨fun vs=>by unfold sp;split;exact ⟨some (_,_),fun _=>rfl⟩;exact ⟨none,fun _=>rfl⟩,fun vs k r h=>by unfold sp at h;split at h;exact ⟨_,_,spec _,h⟩;cases h⟩
end rtvalid
namespace shaped
noncomputable def bd:Code:=(Tryz.f150.body).getD .skip
noncomputable def X:Ctx U El:=⟨E,tds,zeros,eqs,specOf [(154,tvalid.sp)],100000,31,dspecOf [],fun _=>none,fun _=>none⟩
noncomputable def nmR:Norm U:=⟨[],[4],[],[],[],[],[]⟩
noncomputable def RR:Kont U El:=fun st=>normK nmR st (retFin [4] [])
noncomputable def fr0 (t:List Knot) (d:Int):St U El:=⟨[(0,(.lst .knot t)),(1,(.int .i64 d))],[]⟩
noncomputable def sh0 (t:List Knot) (d:Int):R :=
 condB (!(tableB t)) (some ((.bool false),[])) (chk (inb (IntKind.wrap .i64 ((Int.ofNat (List.length t)) - (1:Int))) (List.length t)) (chk (inb (0:Int) (List.length t)) (condB (((List.getD t 0 d_knot).kx == (0:Int))&&(((List.getD t 0 d_knot).ky == (0:Int))&&true)) (condB ((List.getD t (Int.toNat (IntKind.wrap .i64 ((Int.ofNat (List.length t)) - (1:Int)))) d_knot).kx == d) (some ((.bool (ile ((List.getD t (Int.toNat (IntKind.wrap .i64 ((Int.ofNat (List.length t)) - (1:Int)))) d_knot).ky) (1125899906842624:Int))),[])) (some ((.bool false),[]))) (some ((.bool false),[])))))
theorem P0 (t d):exec X (cdp [] bd) .d (fr0 t d) RR (fun _ _=>none) RR=sh0 t d:=by kernel_rfl
noncomputable def f0 (t:List Knot) (d:Int):R:=sh0 t d
theorem T0 (t d):exec X bd .d (fr0 t d) RR (fun _ _=>none) RR=f0 t d:=by
 refine (P0 t d).trans ?_
 show _=sh0 t d
 rfl
theorem run (t d):runFn X bd .d nmR [4] [] [(.lst .knot t),(.int .i64 d)]=f0 t d:=T0 t d
theorem f0_eq (t:List Knot) (d:Int):f0 t d=outB (shapeB t d):=by
  show sh0 t d=_
  unfold sh0 shapeB headK lastK
  cases h:tableB t with
  | false=>rfl
  | true =>
    obtain ⟨h1,h2⟩:=tableB_len h
    rw [lastI h,inbT (show t.length - 1 < t.length by omega),inb0 h1,toNat_nat]
    simp only [Bool.not_true,condF,chkT,oB,cAnd,Bool.true_and,Bool.and_true,Bool.and_assoc]
theorem ok:CtxOk Tryz.prog X:=ctxOk tab (spC tvalid.spOk spN) dpN
theorem okM:MOk Tryz.prog X:=fun g sp h=>by cases h
theorem spec (t:List Knot) (d:Int):CallSpec Tryz.prog E 150 [(.lst .knot t),(.int .i64 d)] (.bool (shapeB t d)) [] :=
 rfs ok okM Tryz.call150 Tryz.func150 ((run t d).trans (f0_eq t d))
noncomputable def sp:Sp U El:=fun args k=>match args with
 | [.lst .knot t,.int .i64 d]=>k (.bool (shapeB t d)) []
 | _=>none
theorem spOk:SpOk Tryz.prog E 150 sp:=⟨fun vs=>by unfold sp;split;exact ⟨some (_,_),fun _=>rfl⟩;exact ⟨none,fun _=>rfl⟩,fun vs k r h=>by unfold sp at h;split at h;exact ⟨_,_,spec _ _,h⟩;cases h⟩
end shaped
namespace rshape
noncomputable def bd:Code:=(Tryz.f126.body).getD .skip
noncomputable def X:Ctx U El:=⟨E,tds,zeros,eqs,specOf [(145,rtvalid.sp)],100000,38,dspecOf [],fun _=>none,fun _=>none⟩
noncomputable def nmR:Norm U:=⟨[],[4],[],[],[],[],[]⟩
noncomputable def RR:Kont U El:=fun st=>normK nmR st (retFin [4] [])
noncomputable def fr0 (t:List Knot) (d:Int):St U El:=⟨[(0,(.lst .knot t)),(1,(.int .i64 d))],[]⟩
noncomputable def sh0 (t:List Knot) (d:Int):R :=
 condB (!(tableB t)) (some ((.bool false),[])) (chk (inb (IntKind.wrap .i64 ((Int.ofNat (List.length t)) - (1:Int))) (List.length t)) (chk (inb (0:Int) (List.length t)) (condB ((List.getD t 0 d_knot).kx == (0:Int)) (chk (inb (0:Int) (List.length t)) (condB ((List.getD t 0 d_knot).ky == (0:Int)) (condB ((List.getD t (Int.toNat (IntKind.wrap .i64 ((Int.ofNat (List.length t)) - (1:Int)))) d_knot).kx == d) (some ((.bool (ile ((List.getD t (Int.toNat (IntKind.wrap .i64 ((Int.ofNat (List.length t)) - (1:Int)))) d_knot).ky) (1125899906842624:Int))),[])) (some ((.bool false),[]))) (some ((.bool false),[])))) (some ((.bool false),[])))))
theorem P0 (t d):exec X (cdp [] bd) .d (fr0 t d) RR (fun _ _=>none) RR=sh0 t d:=by kernel_rfl
noncomputable def f0 (t:List Knot) (d:Int):R:=sh0 t d
theorem T0 (t d):exec X bd .d (fr0 t d) RR (fun _ _=>none) RR=f0 t d:=by
 refine (P0 t d).trans ?_
 show _=sh0 t d
 rfl
theorem run (t d):runFn X bd .d nmR [4] [] [(.lst .knot t),(.int .i64 d)]=f0 t d:=T0 t d
theorem f0_eq (t:List Knot) (d:Int):f0 t d=outB (shapeB t d):=by
  show sh0 t d=_
  unfold sh0 shapeB headK lastK
  cases h:tableB t with
  | false=>rfl
  | true =>
    obtain ⟨h1,h2⟩:=tableB_len h
    rw [lastI h,inbT (show t.length - 1 < t.length by omega),inb0 h1,toNat_nat]
    simp only [Bool.not_true,condF,chkT,oB,cAnd,Bool.true_and,Bool.and_true,Bool.and_assoc]
theorem ok:CtxOk Tryz.prog X:=ctxOk tab (spC rtvalid.spOk spN) dpN
theorem okM:MOk Tryz.prog X:=fun g sp h=>by cases h
theorem spec (t:List Knot) (d:Int):CallSpec Tryz.prog E 126 [(.lst .knot t),(.int .i64 d)] (.bool (shapeB t d)) [] :=
 rfs ok okM Tryz.call126 Tryz.func126 ((run t d).trans (f0_eq t d))
noncomputable def sp:Sp U El:=fun args k=>match args with
 | [.lst .knot t,.int .i64 d]=>k (.bool (shapeB t d)) []
 | _=>none
theorem spOk:SpOk Tryz.prog E 126 sp:=⟨fun vs=>by unfold sp;split;exact ⟨some (_,_),fun _=>rfl⟩;exact ⟨none,fun _=>rfl⟩,fun vs k r h=>by unfold sp at h;split at h;exact ⟨_,_,spec _ _,h⟩;cases h⟩
end rshape
namespace rcurve
noncomputable def bd:Code:=(Tryz.f128.body).getD .skip
noncomputable def X:Ctx U El:=⟨E,tds,zeros,eqs,specOf [(145,rtvalid.sp)],100000,39,dspecOf [],fun _=>none,fun _=>none⟩
noncomputable def nmR:Norm U:=⟨[],[2],[],[],[],[],[]⟩
noncomputable def RR:Kont U El:=fun st=>normK nmR st (retFin [2] [])
noncomputable def fr0 (t:List Knot):St U El:=⟨[(0,(.lst .knot t))],[]⟩
noncomputable def sh0 (t:List Knot):R :=
 condB (tableB t) (chk (inb (0:Int) (List.length t)) (condB (ile (0:Int) ((List.getD t 0 d_knot).kx)) (chk (inb (IntKind.wrap .i64 ((Int.ofNat (List.length t)) - (1:Int))) (List.length t)) (condB (ile ((List.getD t (Int.toNat (IntKind.wrap .i64 ((Int.ofNat (List.length t)) - (1:Int)))) d_knot).kx) (4194304:Int)) (chk (inb (0:Int) (List.length t)) (condB (ile (0:Int) ((List.getD t 0 d_knot).ky)) (chk (inb (IntKind.wrap .i64 ((Int.ofNat (List.length t)) - (1:Int))) (List.length t)) (some ((.bool (ile ((List.getD t (Int.toNat (IntKind.wrap .i64 ((Int.ofNat (List.length t)) - (1:Int)))) d_knot).ky) (1099511627776:Int))),[]))) (some ((.bool false),[])))) (some ((.bool false),[])))) (some ((.bool false),[])))) (some ((.bool false),[]))
theorem P0 (t):exec X (cdp [] bd) .d (fr0 t) RR (fun _ _=>none) RR=sh0 t:=by kernel_rfl
noncomputable def f0 (t:List Knot):R:=sh0 t
theorem T0 (t):exec X bd .d (fr0 t) RR (fun _ _=>none) RR=f0 t:=by
 refine (P0 t).trans ?_
 show _=sh0 t
 rfl
theorem run (t):runFn X bd .d nmR [2] [] [(.lst .knot t)]=f0 t:=T0 t
theorem f0_eq (t:List Knot):f0 t=outB (curveB t):=by
  show sh0 t=_
  unfold sh0 curveB headK lastK
  cases h:tableB t with
  | false=>rfl
  | true =>
    obtain ⟨h1,h2⟩:=tableB_len h
    rw [lastI h,inbT (show t.length - 1 < t.length by omega),inb0 h1,toNat_nat]
    simp only [condT,chkT,oB,cAnd,Bool.true_and,Bool.and_true,Bool.and_assoc]
theorem ok:CtxOk Tryz.prog X:=ctxOk tab (spC rtvalid.spOk spN) dpN
theorem okM:MOk Tryz.prog X:=fun g sp h=>by cases h
theorem spec (t:List Knot):CallSpec Tryz.prog E 128 [(.lst .knot t)] (.bool (curveB t)) [] :=
 rfs ok okM Tryz.call128 Tryz.func128 ((run t).trans (f0_eq t))
noncomputable def sp:Sp U El:=fun args k=>match args with
 | [.lst .knot t]=>k (.bool (curveB t)) []
 | _=>none
theorem spOk:SpOk Tryz.prog E 128 sp:=⟨fun vs=>by unfold sp;split;exact ⟨some (_,_),fun _=>rfl⟩;exact ⟨none,fun _=>rfl⟩,fun vs k r h=>by unfold sp at h;split at h;exact ⟨_,_,spec _,h⟩;cases h⟩
end rcurve
end Go.Proofs.YthdimnlkcgchoaaGreat
