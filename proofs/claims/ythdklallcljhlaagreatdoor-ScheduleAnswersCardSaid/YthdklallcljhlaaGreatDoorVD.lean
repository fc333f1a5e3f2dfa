/- Works in an order: no work comes after itself. -/
import Derived.Test.YthdklallcljhlaaGreatDoorVC
namespace Go.Proofs.YthdklallcljhlaaGreatDoor
set_option linter.unusedSectionVars false
set_option linter.unusedSimpArgs false
set_option linter.unusedVariables false
set_option maxRecDepth 100000
def pZ (l:List Work):Prop:=∃ rk:Nat→Nat,∀ (i:Nat) (h:i < l.length),∀ a∈l[i].wa,rk (Int.toNat a) < rk i
noncomputable def dZ (l:List Work):Bool:=@decide (pZ l) (Classical.propDecidable _)
theorem p5 {l:List Work} (h:pZ l):dZ l=true:=@decide_eq_true _ (Classical.propDecidable _) h
theorem p6 {l:List Work} (h:¬ pZ l):dZ l=false:=@decide_eq_false _ (Classical.propDecidable _) h
def cR:List Bool→Nat
  | []=>0
  | b :: l=>(bif b then 0 else 1)+cR l
theorem nW:∀ n,cR (List.replicate n d_bool)=n:=by
  intro n
  induction n with
  | zero=>rfl
  | succ n ih=>show 1+cR (List.replicate n d_bool)=n+1; rw [ih]; omega
theorem nX:∀ (dn:List Bool) (i:Nat),i < dn.length→List.getD dn i d_bool=false→cR (dn.set i true)+1=cR dn:=by
  intro dn
  induction dn with
  | nil=>intro i h; simp at h
  | cons b dn ih =>
    intro i h hb
    cases i with
    | zero =>
      have:b=false:=hb
      subst this
      show (0+cR dn)+1=1+cR dn
      omega
    | succ i =>
      have:=ih i (by simpa using h) hb
      show ((bif b then 0 else 1)+cR (dn.set i true))+1=(bif b then 0 else 1)+cR dn
      omega
theorem p7:∀ (dn:List Bool),cR dn=0→∀ i,i < dn.length→List.getD dn i d_bool=true:=by
  intro dn
  induction dn with
  | nil=>intro _ i h; simp at h
  | cons b dn ih =>
    intro h i hi
    have h':(bif b then 0 else 1)+cR dn=0:=h
    cases b with
    | false=>simp at h'
    | true =>
      cases i with
      | zero=>rfl
      | succ i=>exact ih (by simpa using h') i (by simpa using hi)
theorem qX:∀ (dn:List Bool),0 < cR dn→∃ i,i < dn.length∧List.getD dn i d_bool=false:=by
  intro dn
  induction dn with
  | nil=>intro h; simp [cR] at h
  | cons b dn ih =>
    intro h
    cases b with
    | false=>exact ⟨0,by simp,rfl⟩
    | true =>
      have h':0+cR dn > 0:=h
      obtain ⟨i,h1,h2⟩:=ih (by omega)
      exact ⟨i+1,by simp; omega,h2⟩
theorem jv (dn:List Bool) (i j:Nat) (hi:i < dn.length):List.getD (dn.set i true) j d_bool=bif Nat.beq i j then true else List.getD dn j d_bool:=by
  rw [List.getD_eq_getElem?_getD,List.getElem?_set]
  by_cases e:i=j
  · subst e
    rw [if_pos rfl,if_pos hi,Nat.beq_refl]
    rfl
  · rw [if_neg e,ai e,cond_false,List.getD_eq_getElem?_getD]
def mf (l:List Work) (dn:List Bool):Prop:=dn.length=l.length∧∃ (rk:Nat→Nat) (T:Nat),∀ (i:Nat) (h:i < l.length),List.getD dn i d_bool=true→rk i < T∧∀ a∈l[i].wa,List.getD dn (Int.toNat a) d_bool=true∧rk (Int.toNat a) < rk i
theorem mg (l:List Work):mf l (List.replicate l.length d_bool):=by
  refine ⟨by simp,fun _=>0,0,fun i h hd => ?_⟩
  rw [aD (by simpa using h),List.getElem_replicate] at hd
  cases hd
theorem mh {l : List Work} {dn : List Bool} (hg : mf l dn) {i : Nat} (hi : i < l.length) (hu : List.getD dn i d_bool = false) (hr : rdy dn l[i] = true) : mf l (dn.set i true) := by
  obtain ⟨hl,rk,T,h⟩:=hg
  have hid:i < dn.length:=by omega
  refine ⟨by simpa using hl,fun j=>if j=i then T else rk j,T+1,fun j hj hd => ?_⟩
  rw [jv _ _ _ hid] at hd
  by_cases e:i=j
  · subst e
    dsimp only
    rw [if_pos rfl]
    refine ⟨by omega,fun a ha => ?_⟩
    have hda:List.getD dn (Int.toNat a) d_bool=true:=List.all_eq_true.1 hr a ha
    have hne:Int.toNat a≠i:=fun e=>by rw [e,hu] at hda; cases hda
    rw [jv _ _ _ hid,ai (Ne.symm hne),cond_false,if_neg hne]
    refine ⟨hda,?_⟩
    by_cases hal:Int.toNat a < l.length
    · exact (h _ hal hda).1
    · have : List.getD dn (Int.toNat a) d_bool = false := by
        rw [List.getD_eq_getElem?_getD,List.getElem?_eq_none (by omega)]
        rfl
      rw [this] at hda
      cases hda
  · rw [ai e, cond_false] at hd
    obtain ⟨h1,h2⟩:=h j hj hd
    dsimp only
    rw [if_neg (Ne.symm e)]
    refine ⟨by omega,fun a ha => ?_⟩
    obtain ⟨h3,h4⟩:=h2 a ha
    have hne:Int.toNat a≠i:=fun e=>by rw [e,hu] at h3; cases h3
    rw [jv _ _ _ hid,ai (Ne.symm hne),cond_false,if_neg hne]
    exact ⟨h3,h4⟩
theorem mi {l:List Work} {dn:List Bool} (hg:mf l dn) (h0:cR dn=0):pZ l:=by
  obtain ⟨hl,rk,T,h⟩:=hg
  exact ⟨rk,fun i hi a ha=>((h i hi (p7 dn h0 i (by omega))).2 a ha).2⟩
theorem ro {l : List Work} {dn : List Bool} (ha : pZ l) (hl : dn.length = l.length) (hin : ∀ w ∈ l, ∀ a ∈ w.wa, inb a l.length = true) (hp : 0 < cR dn) : ∃ i, ∃ h : i < l.length, List.getD dn i d_bool = false ∧ rdy dn l[i] = true := by
  obtain ⟨rk,hrk⟩:=ha
  have key:∀ (m i:Nat),rk i < m→∀ h:i < l.length,List.getD dn i d_bool=false→∃ i,∃ h:i < l.length,List.getD dn i d_bool=false∧rdy dn l[i]=true:=by
    intro m
    induction m with
    | zero=>intro i h; omega
    | succ m ih =>
      intro i hm h hd
      cases hr:rdy dn l[i] with
      | true=>exact ⟨i,h,hd,hr⟩
      | false =>
        obtain ⟨a,ha1,ha2⟩:=List.all_eq_false.1 hr
        have hb:=hin _ (List.getElem_mem h) a ha1
        simp only [inb,Bool.and_eq_true] at hb
        have b1:=dw hb.1; have b2:=oO hb.2
        exact ih (Int.toNat a) (by have:=hrk i h a ha1; omega) (by omega) (by simpa using ha2)
  obtain ⟨i,h1,h2⟩:=qX dn hp
  exact key (rk i+1) i (by omega) (by omega) h2
theorem mj (dn : List Bool) : ∀ (l : List Work) (i : Nat), (dP dn i l = -1 ∧ ∀ (j : Nat) (h : j < l.length), List.getD dn (i + j) d_bool = false → rdy dn l[j] = false) ∨ ∃ (j : Nat) (h : j < l.length), dP dn i l = ((i + j : Nat) : Int) ∧ List.getD dn (i + j) d_bool = false ∧ rdy dn l[j] = true := by
  intro l
  induction l with
  | nil=>intro i; exact .inl ⟨rfl,fun j h=>by simp at h⟩
  | cons w l ih =>
    intro i
    simp only [dP]
    cases hc:(!(List.getD dn i d_bool)&&rdy dn w) with
    | true =>
      simp only [Bool.and_eq_true,Bool.not_eq_true'] at hc
      exact .inr ⟨0,by simp,by simp,hc.1,hc.2⟩
    | false =>
      rw [cond_false]
      rcases ih (i+1) with ⟨h1,h2⟩ | ⟨j,hj,h1,h2,h3⟩
      · refine .inl ⟨h1, fun j hj hd => ?_⟩
        cases j with
        | zero =>
          have hd':List.getD dn i d_bool=false:=hd
          rw [hd'] at hc
          simpa using hc
        | succ j=>exact h2 j (by simpa using hj) (by rw [show i+1+j=i+(j+1) by omega]; exact hd)
      · refine .inr ⟨j+1,by simp; omega,by rw [h1]; omega,by rw [show i+(j+1)=i+1+j by omega]; exact h2,by simpa using h3⟩
namespace ordered
noncomputable def bd:Code:=(Tryz.f68.body).getD .skip
noncomputable def X:Ctx U El:=⟨E,tds,zeros,eqs,aH [],100000,44,aB [],c9 [(87,(m9 ordC.sp))]⟩
noncomputable def nmR:Norm U:=⟨[],[2],[],[],[],[],[]⟩
noncomputable def RR:ah U El:=fun st=>aL nmR st (aG [2] [])
noncomputable def nm1:Norm U:=⟨[],[],[],[],[],[],[]⟩
noncomputable def nm2:Norm U:=⟨[],[0,3,4],[3,500000300],[],[(3,0,.bool,500000300)],[],[]⟩
noncomputable def nm3:Norm U:=⟨[],[0,3,4,5],[3,500000300],[],[(3,0,.bool,500000300)],[],[]⟩
noncomputable def nm4:Norm U:=⟨[],[0,3,4,5,16,17,18],[3,500000300],[],[(3,0,.bool,500000300)],[],[]⟩
noncomputable def nm5:Norm U:=⟨[],[0,3,4,5,16,17,18],[3,500000300],[],[(3,0,.bool,500000300)],[],[]⟩
abbrev Y1:=R
abbrev Y2:=(List Work)→Int→(List Bool)→R
abbrev Y3:=(List Work)→Int→Int→(List Bool)→R
abbrev Y4:=(List Work)→Int→Int→(List Work)→Int→Int→(List Bool)→R
abbrev Y5:=(List Work)→Int→Int→(List Work)→Int→Int→(List Bool)→R
noncomputable def fr0 (l:List Work):St U El:=⟨[(0,(.lst .work l))],[]⟩
noncomputable def fr1:St U El:=⟨[],[]⟩
noncomputable def fr2 (l0:List Work) (bA:Int) (cA:List Bool):St U El:=⟨[(0,(.lst .work l0)),(3,(.ptr 3 0)),(4,(.int .i64 bA))],[(3,(.box 0 [(.ful 500000300)])),(500000300,(.rows .bool cA))]⟩
noncomputable def fr3 (l0:List Work) (bA:Int) (aA:Int) (cA:List Bool):St U El:=⟨[(0,(.lst .work l0)),(3,(.ptr 3 0)),(4,(.int .i64 bA)),(5,(.int .i64 aA))],[(3,(.box 0 [(.ful 500000300)])),(500000300,(.rows .bool cA))]⟩
noncomputable def fr4 (l0:List Work) (bA:Int) (aA:Int) (eA:List Work) (fA:Int) (dA:Int) (cA:List Bool):St U El:=⟨[(0,(.lst .work l0)),(3,(.ptr 3 0)),(4,(.int .i64 bA)),(5,(.int .i64 aA)),(16,(.lst .work eA)),(17,(.int .i64 fA)),(18,(.int .i64 dA))],[(3,(.box 0 [(.ful 500000300)])),(500000300,(.rows .bool cA))]⟩
noncomputable def fr5 (l0:List Work) (bA:Int) (aA:Int) (eA:List Work) (fA:Int) (dA:Int) (cA:List Bool):St U El:=⟨[(0,(.lst .work l0)),(3,(.ptr 3 0)),(4,(.int .i64 bA)),(5,(.int .i64 aA)),(16,(.lst .work eA)),(17,(.int .i64 fA)),(18,(.int .i64 dA))],[(3,(.box 0 [(.ful 500000300)])),(500000300,(.rows .bool cA))]⟩
noncomputable def sh0 (l:List Work) (k2:Y2):R :=
  chk (ile 0 (Int.ofNat (List.length l))&&ile (Int.ofNat (List.length l)) (Int.ofNat (List.length l))&&ile ((Int.ofNat (List.length l)) * 1) 140737488355328) (k2 l (Int.ofNat (List.length l)) (List.replicate (Int.toNat (Int.ofNat (List.length l))) d_bool))
noncomputable def sh1:R :=
  some ((.bool true),[])
noncomputable def sh2 (l0:List Work) (bA:Int) (cA:List Bool) (k1:Y1) (k4:Y4):R :=
  af (ilt (0:Int) bA) (k4 l0 bA bA l0 (Int.ofNat (List.length l0)) (0:Int) cA) (k1)
noncomputable def sh3 (l0:List Work) (bA:Int) (aA:Int) (cA:List Bool) (k2:Y2):R :=
  af (bA == aA) (some ((.bool false),[])) (k2 l0 bA cA)
noncomputable def sh4 (l0:List Work) (bA:Int) (aA:Int) (eA:List Work) (fA:Int) (dA:Int) (cA:List Bool) (k3:Y3) (k5:Y5):R :=
  af (ilt dA fA) (chk (inb dA (List.length eA)) (chk (inb dA (List.length cA)) (chk (nlt (Int.toNat dA) (List.length cA)) (af (!(List.getD cA (Int.toNat dA) d_bool)) (chk ((nle (List.length ((List.getD eA (Int.toNat dA) ab).wa)) 90000&&List.all ((List.getD eA (Int.toNat dA) ab).wa) (fun a=>inb a (List.length cA)))) (af (!(List.any ((List.getD eA (Int.toNat dA) ab).wa) (bQ cA))) (chk (inb dA (List.length cA)) (chk (nlt (Int.toNat dA) (List.length cA)&&true) (k5 l0 (IntKind.wrap .i64 (bA - (1:Int))) aA eA fA dA (List.set cA (Int.toNat dA) true)))) (k5 l0 bA aA eA fA dA cA))) (k5 l0 bA aA eA fA dA cA))))) (k3 l0 bA aA cA)
noncomputable def sh5 (l0:List Work) (bA:Int) (aA:Int) (eA:List Work) (fA:Int) (dA:Int) (cA:List Bool) (k4:Y4):R :=
  k4 l0 bA aA eA fA (IntKind.wrap .i64 (dA+(1:Int))) cA
noncomputable def it2 (Kb1:ah U El) (n:Nat):ah U El:=bD nm2 (fun st' K'=>ak X (cdp [1,1,0,1,0,0] bd) (.seq none .d (.block (.seq none .d (.seq (some nm3) (.seq none .d (.block (.loop nm4 (.seq none .d (.seq none .d (.seq (some nm5) .d .d)))))) .d)))) st' K' (aC 0 (ap nm1 Kb1) (fun _ _=>none)) RR) n
noncomputable def it4 (Kb1 Kb2 Kb3:ah U El) (n:Nat):ah U El:=bD nm4 (fun st' K'=>ak X (cdp [1,1,0,1,0,0,1,0,1,0,1,0,0] bd) (.seq none .d (.seq none .d (.seq (some nm5) .d .d))) st' K' (aC 2 (ap nm3 Kb3) (aC 1 (ap nm2 Kb2) (aC 0 (ap nm1 Kb1) (fun _ _=>none)))) RR) n
noncomputable def ct1:ah U El:=fun st=>ak X (cdp [1,1,1] bd) .d st RR (fun _ _=>none) RR
noncomputable def ct3 (Kb1 Kb2:ah U El):ah U El:=fun st=>ak X (cdp [1,1,0,1,0,0,1,0,1,1] bd) .d st (ap nm2 Kb2) (aC 1 (ap nm2 Kb2) (aC 0 (ap nm1 Kb1) (fun _ _=>none))) RR
noncomputable def ct5 (Kb1 Kb2 Kb3 Kb4:ah U El):ah U El:=fun st=>ak X (cdp [1,1,0,1,0,0,1,0,1,0,1,0,0,1,1,1] bd) .d st (ap nm4 Kb4) (aC 2 (ap nm3 Kb3) (aC 1 (ap nm2 Kb2) (aC 0 (ap nm1 Kb1) (fun _ _=>none)))) RR
theorem P0 (l):ak X (cdp [] bd) (.seq none .d (.seq none .d (.seq (some nm1) (.seq none .d (.block (.loop nm2 (.seq none .d (.block (.seq none .d (.seq (some nm3) (.seq none .d (.block (.loop nm4 (.seq none .d (.seq none .d (.seq (some nm5) .d .d)))))) .d))))))) .d))) (fr0 l) RR (fun _ _=>none) RR=sh0 l (fun y0 y1 y2=>(hid (it2 (hid ct1) 100000)) (fr2 y0 y1 y2)):=by kernel_rfl
theorem P1:ct1 (fr1)=sh1:=by kernel_rfl
theorem P2 (l0 bA cA) (Kb1 Kb2:ah U El):ak X (cdp [1,1,0,1,0,0] bd) (.seq none .d (.block (.seq none .d (.seq (some nm3) (.seq none .d (.block (.loop nm4 (.seq none .d (.seq none .d (.seq (some nm5) .d .d)))))) .d)))) (fr2 l0 bA cA) (ap nm2 Kb2) (aC 0 (ap nm1 Kb1) (fun _ _=>none)) RR=sh2 l0 bA cA (Kb1 (fr1)) (fun y0 y1 y2 y3 y4 y5 y6=>(hid (it4 Kb1 Kb2 (hid (ct3 Kb1 Kb2)) 100000)) (fr4 y0 y1 y2 y3 y4 y5 y6)):=by kernel_rfl
theorem P3 (l0 bA aA cA) (Kb1 Kb2:ah U El):ct3 Kb1 Kb2 (fr3 l0 bA aA cA)=sh3 l0 bA aA cA (fun y0 y1 y2=>Kb2 (fr2 y0 y1 y2)):=by kernel_rfl
theorem P4 (l0 bA aA eA fA dA cA) (Kb1 Kb2 Kb3 Kb4:ah U El):ak X (cdp [1,1,0,1,0,0,1,0,1,0,1,0,0] bd) (.seq none .d (.seq none .d (.seq (some nm5) .d .d))) (fr4 l0 bA aA eA fA dA cA) (ap nm4 Kb4) (aC 2 (ap nm3 Kb3) (aC 1 (ap nm2 Kb2) (aC 0 (ap nm1 Kb1) (fun _ _=>none)))) RR=sh4 l0 bA aA eA fA dA cA (fun y0 y1 y2 y3=>Kb3 (fr3 y0 y1 y2 y3)) (fun y0 y1 y2 y3 y4 y5 y6=>(hid (ct5 Kb1 Kb2 Kb3 Kb4)) (fr5 y0 y1 y2 y3 y4 y5 y6)):=by kernel_rfl
theorem P5 (l0 bA aA eA fA dA cA) (Kb1 Kb2 Kb3 Kb4:ah U El):ct5 Kb1 Kb2 Kb3 Kb4 (fr5 l0 bA aA eA fA dA cA)=sh5 l0 bA aA eA fA dA cA (fun y0 y1 y2 y3 y4 y5 y6=>Kb4 (fr4 y0 y1 y2 y3 y4 y5 y6)):=by kernel_rfl
noncomputable def f1:R:=sh1
noncomputable def f3 (k2:Y2) (l0:List Work) (bA:Int) (aA:Int) (cA:List Bool):R:=sh3 l0 bA aA cA k2
noncomputable def f5 (k2:Y2) (k4:Y4) (l0:List Work) (bA:Int) (aA:Int) (eA:List Work) (fA:Int) (dA:Int) (cA:List Bool):R:=sh5 l0 bA aA eA fA dA cA k4
noncomputable def f4 (k2:Y2):Nat→Y4
  | 0=>fun _ _ _ _ _ _ _=>none
  | n+1=>fun l0 bA aA eA fA dA cA=>sh4 l0 bA aA eA fA dA cA (f3 k2) (f5 k2 (f4 k2 n))
noncomputable def f2:Nat→Y2
  | 0=>fun _ _ _=>none
  | n+1=>fun l0 bA cA=>sh2 l0 bA cA f1 (f4 (f2 n) 100000)
noncomputable def f0 (l:List Work):R:=sh0 l (f2 100000)
theorem T1:(hid ct1) (fr1)=f1:=by
  refine (congrFun (am _) _).trans <| (P1).trans ?_
  show _=sh1
  rfl
theorem T3 (KL2:ah U El) (k2:Y2) (h2:∀ l0 bA cA,KL2 (fr2 l0 bA cA)=k2 l0 bA cA) (l0 bA aA cA):(hid (ct3 (hid ct1) KL2)) (fr3 l0 bA aA cA)=f3 k2 l0 bA aA cA:=by
  refine (congrFun (am _) _).trans <| (P3 l0 bA aA cA (hid ct1) KL2).trans ?_
  show _=sh3 l0 bA aA cA k2
  simp only [h2]
theorem T5 (KL2:ah U El) (KL4:ah U El) (k2:Y2) (k4:Y4) (h2:∀ l0 bA cA,KL2 (fr2 l0 bA cA)=k2 l0 bA cA) (h4:∀ l0 bA aA eA fA dA cA,KL4 (fr4 l0 bA aA eA fA dA cA)=k4 l0 bA aA eA fA dA cA) (l0 bA aA eA fA dA cA):(hid (ct5 (hid ct1) KL2 (hid (ct3 (hid ct1) KL2)) KL4)) (fr5 l0 bA aA eA fA dA cA)=f5 k2 k4 l0 bA aA eA fA dA cA:=by
  refine (congrFun (am _) _).trans <| (P5 l0 bA aA eA fA dA cA (hid ct1) KL2 (hid (ct3 (hid ct1) KL2)) KL4).trans ?_
  show _=sh5 l0 bA aA eA fA dA cA k4
  simp only [h4]
theorem T4 (KL2:ah U El) (k2:Y2) (h2:∀ l0 bA cA,KL2 (fr2 l0 bA cA)=k2 l0 bA cA):∀ (n:Nat),∀ l0 bA aA eA fA dA cA,it4 (hid ct1) KL2 (hid (ct3 (hid ct1) KL2)) n (fr4 l0 bA aA eA fA dA cA)=f4 k2 n l0 bA aA eA fA dA cA:=by
  intro n
  induction n with
  | zero=>intros; rfl
  | succ n ih =>
    intro l0 bA aA eA fA dA cA
    refine (P4 l0 bA aA eA fA dA cA (hid ct1) KL2 (hid (ct3 (hid ct1) KL2)) (it4 (hid ct1) KL2 (hid (ct3 (hid ct1) KL2)) n)).trans ?_
    show _=sh4 l0 bA aA eA fA dA cA (f3 k2) (f5 k2 (f4 k2 n))
    simp only [T3 KL2 k2 h2,T5 KL2 (it4 (hid ct1) KL2 (hid (ct3 (hid ct1) KL2)) n) k2 (f4 k2 n) h2 ih]
theorem H4 (KL2:ah U El) (k2:Y2) (h2:∀ l0 bA cA,KL2 (fr2 l0 bA cA)=k2 l0 bA cA) (l0 bA aA eA fA dA cA):hid (it4 (hid ct1) KL2 (hid (ct3 (hid ct1) KL2)) 100000) (fr4 l0 bA aA eA fA dA cA)=f4 k2 100000 l0 bA aA eA fA dA cA:=(congrFun (am _) _).trans (T4 KL2 k2 h2 100000 l0 bA aA eA fA dA cA)
theorem T2:∀ (n:Nat),∀ l0 bA cA,it2 (hid ct1) n (fr2 l0 bA cA)=f2 n l0 bA cA:=by
  intro n
  induction n with
  | zero=>intros; rfl
  | succ n ih =>
    intro l0 bA cA
    refine (P2 l0 bA cA (hid ct1) (it2 (hid ct1) n)).trans ?_
    show _=sh2 l0 bA cA f1 (f4 (f2 n) 100000)
    simp only [T1,H4 (it2 (hid ct1) n) (f2 n) ih]
theorem H2 (l0 bA cA):hid (it2 (hid ct1) 100000) (fr2 l0 bA cA)=f2 100000 l0 bA cA:=(congrFun (am _) _).trans (T2 100000 l0 bA cA)
theorem T0 (l):ak X bd (.seq none .d (.seq none .d (.seq (some nm1) (.seq none .d (.block (.loop nm2 (.seq none .d (.block (.seq none .d (.seq (some nm3) (.seq none .d (.block (.loop nm4 (.seq none .d (.seq none .d (.seq (some nm5) .d .d)))))) .d))))))) .d))) (fr0 l) RR (fun _ _=>none) RR=f0 l:=by
  refine (P0 l).trans ?_
  show _=sh0 l (f2 100000)
  simp only [H2]
theorem run (l):aS X bd (.seq none .d (.seq none .d (.seq (some nm1) (.seq none .d (.block (.loop nm2 (.seq none .d (.block (.seq none .d (.seq (some nm3) (.seq none .d (.block (.loop nm4 (.seq none .d (.seq none .d (.seq (some nm5) .d .d)))))) .d))))))) .d))) nmR [2] [] [(.lst .work l)]=f0 l:=T0 l
theorem inner (l : List Work) (hl : l.length ≤ 90000) (hw : ∀ w ∈ l, w.wa.length ≤ 90000 ∧ ∀ a ∈ w.wa, inb a l.length = true) (k2 : Y2) (before : Int) : ∀ (n i left : Nat) (dn : List Bool), l.length < n + i → i ≤ l.length → mf l dn → cR dn = left →
    ∃ (left':Nat) (dn':List Bool),f4 k2 n l (left:Int) before l (Int.ofNat l.length) (i:Int) dn=f3 k2 l (left':Int) before dn'∧mf l dn'∧cR dn'=left'∧left'≤left∧(left'=left→dn'=dn∧∀ (j:Nat) (h:j < l.length),i≤j→List.getD dn j d_bool=false→rdy dn l[j]=false):=by
  intro n
  induction n with
  | zero=>intro i left dn h1 h2; omega
  | succ n ih =>
    intro i left dn h1 h2 hg hc
    by_cases hi:i < l.length
    · have hid : i < dn.length := by rw [hg.1]; exact hi
      obtain ⟨w1,w2⟩:=hw _ (List.getElem_mem hi)
      have e5:∀ (lf:Nat) (d:List Bool),f5 k2 (f4 k2 n) l (lf:Int) before l (Int.ofNat l.length) (i:Int) d=f4 k2 n l (lf:Int) before l (Int.ofNat l.length) ((i+1:Nat):Int) d:=fun lf d=>by
        show f4 k2 n l (lf:Int) before l (Int.ofNat l.length) (IntKind.wrap .i64 ((i:Int)+1)) d=_
        rw [bl i (by omega)]
      have hall:List.all l[i].wa (fun a=>inb a dn.length)=true:=List.all_eq_true.2 fun a ha=>by rw [hg.1]; exact w2 a ha
      have hrd:(!(List.any l[i].wa (bQ dn)))=rdy dn l[i]:=by
        unfold rdy
        rw [Bool.eq_iff_iff]
        simp [bQ]
      have step:f4 k2 (n+1) l (left:Int) before l (Int.ofNat l.length) (i:Int) dn=bif !(List.getD dn i d_bool)&&rdy dn l[i] then f5 k2 (f4 k2 n) l (IntKind.wrap .i64 ((left:Int) - 1)) before l (Int.ofNat l.length) (i:Int) (dn.set i true) else f5 k2 (f4 k2 n) l (left:Int) before l (Int.ofNat l.length) (i:Int) dn:=by
        show sh4 l (left:Int) before l (Int.ofNat l.length) (i:Int) dn (f3 k2) (f5 k2 (f4 k2 n))=_
        unfold sh4
        rw [bf (by simp; omega),a8 hi,a8 hid,aw,j5 hid,aD hi,hrd,bz w1,hall]
        cases List.getD dn i d_bool<;>cases rdy dn l[i]<;>rfl
      rw [step]
      cases hb:(!(List.getD dn i d_bool)&&rdy dn l[i]) with
      | true =>
        simp only [Bool.and_eq_true,Bool.not_eq_true'] at hb
        have hcs:=nX dn i hid hb.1
        obtain ⟨lf,hlf⟩:∃ lf,left=lf+1:=⟨cR (dn.set i true),by omega⟩
        have hwr:IntKind.wrap .i64 ((left:Int) - 1)=(lf:Int):=by
          have hcl:cR dn≤dn.length:=by
            have:∀ d:List Bool,cR d≤d.length:=by
              intro d
              induction d with
              | nil=>exact Nat.le_refl _
              | cons b d ih=>show (bif b then 0 else 1)+cR d≤d.length+1; cases b<;>simp<;>omega
            exact this dn
          have hdl:=hg.1
          rw [cB (by omega) (by omega)]
          omega
        rw [cond_true,hwr,e5]
        obtain ⟨l',d',q1,q2,q3,q4,q5⟩:=ih (i+1) lf (dn.set i true) (by omega) hi (mh hg hi hb.1 hb.2) (by omega)
        exact ⟨l',d',q1,q2,q3,by omega,fun e=>by omega⟩
      | false =>
        rw [cond_false,e5]
        obtain ⟨l',d',q1,q2,q3,q4,q5⟩:=ih (i+1) left dn (by omega) hi hg hc
        refine ⟨l',d',q1,q2,q3,q4,fun e => ?_⟩
        obtain ⟨r1,r2⟩:=q5 e
        refine ⟨r1,fun j hj hij hd => ?_⟩
        by_cases e2:j=i
        · subst e2
          rw [hd] at hb
          simpa using hb
        · exact r2 j hj (by omega) hd
    · have : i = l.length := by omega
      subst this
      refine ⟨left,dn,?_,hg,hc,Nat.le_refl _,fun _=>⟨rfl,fun j hj hij=>by omega⟩⟩
      show sh4 l (left:Int) before l (Int.ofNat l.length) (l.length:Int) dn (f3 k2) (f5 k2 (f4 k2 n))=_
      unfold sh4
      rw [a6 (by simp)]
      rfl
theorem rY (l : List Work) (hl : l.length ≤ 90000) (hw : ∀ w ∈ l, w.wa.length ≤ 90000 ∧ ∀ a ∈ w.wa, inb a l.length = true) : ∀ (n left : Nat) (dn : List Bool), left < n → mf l dn → cR dn = left → f2 n l (left : Int) dn = a7 (dZ l) := by
  intro n
  induction n with
  | zero=>intro left dn h; omega
  | succ n ih =>
    intro left dn h hg hc
    show sh2 l (left:Int) dn f1 (f4 (f2 n) 100000)=_
    unfold sh2
    by_cases h0:left=0
    · subst h0
      rw [a6 (by simp),p5 (mi hg hc)]
      rfl
    · rw [bf (show (0 : Int) < (left : Int) by omega), bm]
      obtain ⟨l',d',q1,q2,q3,q4,q5⟩:=inner l hl hw (f2 n) (left:Int) 100000 0 left dn (by omega) (by omega) hg hc
      refine Eq.trans q1 ?_
      show sh3 l (l':Int) (left:Int) d' (f2 n)=_
      unfold sh3
      by_cases e:l'=left
      · subst e
        obtain ⟨r1,r2⟩:=q5 rfl
        rw [beq_self_eq_true,bm,p6 fun ha => ?_]
        · rfl
        · obtain ⟨i, hi, s1, s2⟩ := ro ha hg.1 (fun w hw' => (hw w hw').2) (by omega : 0 < cR dn)
          rw [r2 i hi (by omega) s1] at s2
          cases s2
      · rw [show ((l' : Int) == (left : Int)) = false from beq_eq_false_iff_ne.2 fun e2 => e (Int.ofNat.inj e2), br]
        exact ih l' d' (by omega) q2 q3
theorem f0_eq (l:List Work) (h:okO l=true):f0 l=a7 (dZ l):=by
  obtain ⟨h1,h2⟩:=gn h
  show sh0 l (f2 100000)=_
  unfold sh0
  rw [bP (show (0:Int)≤Int.ofNat l.length by simp),bP (Int.le_refl (Int.ofNat l.length)),bP (show Int.ofNat l.length * 1≤140737488355328 by simp; omega)]
  show f2 100000 l (l.length:Int) (List.replicate l.length d_bool)=_
  exact rY l h1 h2 100000 l.length _ (by omega) (mg l) (nW _)
theorem ok:CtxOk Tryz.prog X:=aO tab spN dpN
theorem okM:MOk Tryz.prog X:=cJ _ (mpC (iB ok ordC.spOk) mpN)
theorem spec (l:List Work) (h:(okO l)=true):ar Tryz.prog E 68 [(.lst .work l)] (.bool (dZ l)) [] :=
  al ok okM Tryz.call68 Tryz.func68 (by kernel_rfl) (by kernel_rfl) (by kernel_rfl) (by show 1≤44; decide) (by decide) (by rfl) ((run l).trans (f0_eq l h))
noncomputable def sp:Sp U El:=fun args k=>match args with
  | [.lst .work l]=>chk (okO l) (k (.bool (dZ l)) [])
  | _=>none
theorem spOk:SpOk Tryz.prog E 68 sp where
  det:=fun vs=>by
    unfold sp
    split
    · exact ba _ _ _
    · exact ⟨none,fun _=>rfl⟩
  ok:=fun vs k r h=>by
    unfold sp at h
    split at h
    · obtain ⟨h1, h2⟩ := ae h
      exact ⟨_,_,spec _ h1,h2⟩
    · cases h
end ordered
end Go.Proofs.YthdklallcljhlaaGreatDoor
