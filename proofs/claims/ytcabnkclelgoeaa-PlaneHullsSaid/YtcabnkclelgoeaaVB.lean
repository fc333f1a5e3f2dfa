/- The code's hull, and the document's, are one list. -/
import Derived.Test.YtcabnkclelgoeaaHM
import Derived.Test.YtcabnkclelgoeaaRV
namespace Go.Proofs.Ytcabnkclelgoeaa
set_option linter.unusedSectionVars false
set_option linter.unusedSimpArgs false
set_option linter.unusedVariables false
set_option maxRecDepth 100000
theorem popR_len (p:Pt):∀ rs:List Pt,(popR p rs).length≤rs.length:=by
  intro rs
  induction rs with
  | nil=>exact Nat.le_refl _
  | cons a rs ih =>
    cases rs with
    | nil=>exact Nat.le_refl _
    | cons b l =>
      simp only [popR]
      cases ile (trn b a p) 0
      · exact Nat.le_refl _
      · exact Nat.le_succ_of_le ih
theorem popR_sub (p:Pt):∀ rs:List Pt,∀ x∈popR p rs,x∈rs:=by
  intro rs
  induction rs with
  | nil=>intro x h; exact h
  | cons a rs ih =>
    cases rs with
    | nil=>intro x h; exact h
    | cons b l =>
      simp only [popR]
      cases ile (trn b a p) 0
      · intro x h; exact h
      · intro x h; exact List.mem_cons_of_mem _ (ih x h)
theorem chain_len (l:List Pt):(chainL l).length≤l.length:=by
  induction l using snocI with
  | h0=>exact Nat.le_refl _
  | h1 l p ih =>
    rw [chain_snoc]
    have:=popR_len p (chainL l)
    simp only [List.length_cons,List.length_append,List.length_nil]
    omega
namespace chain
noncomputable def bd:Code:=(Try.f56.body).getD .skip
noncomputable def X:Ctx U El:=⟨E,tds,zeros,eqs,specOf [(42,turn.sp)],100000,43,dspecOf [],fun _=>none⟩
noncomputable def nmR:Norm U:=⟨[(2,.pt)],[2],[2],[],[],[],[]⟩
noncomputable def RR:Kont U El:=fun st=>normK nmR st (retFin [2] [2])
noncomputable def nm1:Norm U:=⟨[(3,.pt)],[3],[3],[],[],[],[]⟩
noncomputable def nm2:Norm U:=⟨[(3,.pt)],[3,6,7,8],[3],[],[],[],[]⟩
noncomputable def nm3:Norm U:=⟨[(3,.pt)],[3,6,7,8],[3],[],[],[],[]⟩
noncomputable def nm4:Norm U:=⟨[(3,.pt)],[3,5,6,7,8],[3,5],[],[],[],[]⟩
noncomputable def nm5:Norm U:=⟨[(3,.pt)],[3,5,6,7,8],[3,5],[],[],[],[]⟩
noncomputable def nm6:Norm U:=⟨[(3,.pt)],[3,5,6,7,8],[3,5],[],[],[],[]⟩
abbrev Y1:=(List Pt)→R
abbrev Y2:=(List Pt)→(List Pt)→Int→Int→R
abbrev Y3:=(List Pt)→(List Pt)→Int→Int→R
abbrev Y4:=(List Pt)→(List Pt)→Int→Int→Pt→R
abbrev Y5:=(List Pt)→(List Pt)→Int→Int→Pt→R
abbrev Y6:=(List Pt)→(List Pt)→Int→Int→Pt→R
noncomputable def fr0 (l:List Pt):St U El:=⟨[(0,(.lst .pt l))],[]⟩
noncomputable def fr1 (aA:List Pt):St U El:=⟨[(3,(.ful 3))],[(3,(.rows .pt aA))]⟩
noncomputable def fr2 (aA:List Pt) (x6:List Pt) (x7:Int) (x8:Int):St U El:=⟨[(3,(.ful 3)),(6,(.lst .pt x6)),(7,(.int .i64 x7)),(8,(.int .i64 x8))],[(3,(.rows .pt aA))]⟩
noncomputable def fr3 (aA:List Pt) (x6:List Pt) (x7:Int) (x8:Int):St U El:=⟨[(3,(.ful 3)),(6,(.lst .pt x6)),(7,(.int .i64 x7)),(8,(.int .i64 x8))],[(3,(.rows .pt aA))]⟩
noncomputable def fr4 (aA:List Pt) (x6:List Pt) (x7:Int) (x8:Int) (b5:Pt):St U El:=⟨[(3,(.ful 3)),(5,(.ptr 5 0)),(6,(.lst .pt x6)),(7,(.int .i64 x7)),(8,(.int .i64 x8))],[(3,(.rows .pt aA)),(5,(.box 0 [(.int .i64 b5.px),(.int .i64 b5.py)]))]⟩
noncomputable def fr5 (aA:List Pt) (x6:List Pt) (x7:Int) (x8:Int) (b5:Pt):St U El:=⟨[(3,(.ful 3)),(5,(.ptr 5 0)),(6,(.lst .pt x6)),(7,(.int .i64 x7)),(8,(.int .i64 x8))],[(3,(.rows .pt aA)),(5,(.box 0 [(.int .i64 b5.px),(.int .i64 b5.py)]))]⟩
noncomputable def fr6 (aA:List Pt) (x6:List Pt) (x7:Int) (x8:Int) (b5:Pt):St U El:=⟨[(3,(.ful 3)),(5,(.ptr 5 0)),(6,(.lst .pt x6)),(7,(.int .i64 x7)),(8,(.int .i64 x8))],[(3,(.rows .pt aA)),(5,(.box 0 [(.int .i64 b5.px),(.int .i64 b5.py)]))]⟩
noncomputable def sh0 (l:List Pt) (k2:Y2):R :=
  k2 ([]:List Pt) l (Int.ofNat (List.length l)) (0:Int)
noncomputable def sh1 (aA:List Pt):R :=
  some ((.ful 0),[(0,.rows .pt aA)])
noncomputable def sh2 (aA:List Pt) (x6:List Pt) (x7:Int) (x8:Int) (k1:Y1) (k5:Y5):R :=
  condB (ilt x8 x7) (chk (inb x8 (List.length x6)) (k5 aA x6 x7 x8 (List.getD x6 (Int.toNat x8) d_pt))) (k1 aA)
noncomputable def sh3 (aA:List Pt) (x6:List Pt) (x7:Int) (x8:Int) (k2:Y2):R :=
  k2 aA x6 x7 (IntKind.wrap .i64 (x8+(1:Int)))
noncomputable def sh4 (aA:List Pt) (x6:List Pt) (x7:Int) (x8:Int) (b5:Pt) (k3:Y3):R :=
  chk (nle ((List.length aA+List.length ([b5]:List Pt)) * 16) 140737488355328&&nle (List.length aA+List.length ([b5]:List Pt)) 9223372036854775807) (k3 (aA++([b5]:List Pt)) x6 x7 x8)
noncomputable def sh5 (aA:List Pt) (x6:List Pt) (x7:Int) (x8:Int) (b5:Pt) (k4:Y4) (k6:Y6):R :=
  condB (ilt (1:Int) (Int.ofNat (List.length aA))) (chk (inb (IntKind.wrap .i64 ((Int.ofNat (List.length aA)) - (2:Int))) (List.length aA)) (chk (nlt (Int.toNat (IntKind.wrap .i64 ((Int.ofNat (List.length aA)) - (2:Int)))) (List.length aA)) (chk (inb (IntKind.wrap .i64 ((Int.ofNat (List.length aA)) - (1:Int))) (List.length aA)) (chk (nlt (Int.toNat (IntKind.wrap .i64 ((Int.ofNat (List.length aA)) - (1:Int)))) (List.length aA)) (chk ((vB (List.getD aA (Int.toNat (IntKind.wrap .i64 ((Int.ofNat (List.length aA)) - (2:Int)))) d_pt)&&(vB (List.getD aA (Int.toNat (IntKind.wrap .i64 ((Int.ofNat (List.length aA)) - (1:Int)))) d_pt)&&vB b5))) (condB (ile (trn (List.getD aA (Int.toNat (IntKind.wrap .i64 ((Int.ofNat (List.length aA)) - (2:Int)))) d_pt) (List.getD aA (Int.toNat (IntKind.wrap .i64 ((Int.ofNat (List.length aA)) - (1:Int)))) d_pt) b5) (0:Int)) (k6 aA x6 x7 x8 b5) (k4 aA x6 x7 x8 b5))))))) (k4 aA x6 x7 x8 b5)
noncomputable def sh6 (aA:List Pt) (x6:List Pt) (x7:Int) (x8:Int) (b5:Pt) (k5:Y5):R :=
  chk (ile 0 (0:Int)&&ile (0:Int) (IntKind.wrap .i64 ((Int.ofNat (List.length aA)) - (1:Int)))&&ile (IntKind.wrap .i64 ((Int.ofNat (List.length aA)) - (1:Int))) (Int.ofNat (List.length aA))) (chk (true&&nlt 0 (Int.toNat (IntKind.wrap .i64 ((Int.ofNat (List.length aA)) - (1:Int))) - 0)) (k5 (List.take (Int.toNat (IntKind.wrap .i64 ((Int.ofNat (List.length aA)) - (1:Int))) - 0) aA) x6 x7 x8 b5))
noncomputable def it2 (Kb1:Kont U El) (n:Nat):Kont U El:=iter nm2 (fun st' K'=>exec X (cdp [1,1,0,1,0,0] bd) (.seq none .d (.seq none .d (.seq (some nm3) (.block (.seq none .d (.seq (some nm4) (.block (.loop nm5 (.seq (some nm6) .d .d))) .d))) .d))) st' K' (Eblk 0 (cutK nm1 Kb1) (fun _ _=>none)) RR) n
noncomputable def it5 (Kb1 Kb3 Kb4:Kont U El) (n:Nat):Kont U El:=iter nm5 (fun st' K'=>exec X (cdp [1,1,0,1,0,0,1,1,0,0,1,0,0,0] bd) (.seq (some nm6) .d .d) st' K' (Eblk 2 (cutK nm4 Kb4) (Eblk 1 (cutK nm3 Kb3) (Eblk 0 (cutK nm1 Kb1) (fun _ _=>none)))) RR) n
noncomputable def ct1:Kont U El:=fun st=>exec X (cdp [1,1,1] bd) .d st RR (fun _ _=>none) RR
noncomputable def ct3 (Kb1 Kb2:Kont U El):Kont U El:=fun st=>exec X (cdp [1,1,0,1,0,0,1,1,1] bd) .d st (cutK nm2 Kb2) (Eblk 0 (cutK nm1 Kb1) (fun _ _=>none)) RR
noncomputable def ct4 (Kb1 Kb3:Kont U El):Kont U El:=fun st=>exec X (cdp [1,1,0,1,0,0,1,1,0,0,1,1] bd) .d st (cutK nm3 Kb3) (Eblk 1 (cutK nm3 Kb3) (Eblk 0 (cutK nm1 Kb1) (fun _ _=>none))) RR
noncomputable def ct6 (Kb1 Kb3 Kb4 Kb5:Kont U El):Kont U El:=fun st=>exec X (cdp [1,1,0,1,0,0,1,1,0,0,1,0,0,0,1] bd) .d st (cutK nm5 Kb5) (Eblk 2 (cutK nm4 Kb4) (Eblk 1 (cutK nm3 Kb3) (Eblk 0 (cutK nm1 Kb1) (fun _ _=>none)))) RR
theorem P0 (l):exec X (cdp [] bd) (.seq none .d (.seq none .d (.seq (some nm1) (.seq none .d (.block (.loop nm2 (.seq none .d (.seq none .d (.seq (some nm3) (.block (.seq none .d (.seq (some nm4) (.block (.loop nm5 (.seq (some nm6) .d .d))) .d))) .d)))))) .d))) (fr0 l) RR (fun _ _=>none) RR=sh0 l (fun y0 y1 y2 y3=>(hid (it2 (hid ct1) 100000)) (fr2 y0 y1 y2 y3)):=by kernel_rfl
theorem P1 (aA):ct1 (fr1 aA)=sh1 aA:=by kernel_rfl
theorem P2 (aA x6 x7 x8) (Kb1 Kb2:Kont U El):exec X (cdp [1,1,0,1,0,0] bd) (.seq none .d (.seq none .d (.seq (some nm3) (.block (.seq none .d (.seq (some nm4) (.block (.loop nm5 (.seq (some nm6) .d .d))) .d))) .d))) (fr2 aA x6 x7 x8) (cutK nm2 Kb2) (Eblk 0 (cutK nm1 Kb1) (fun _ _=>none)) RR=sh2 aA x6 x7 x8 (fun y0=>Kb1 (fr1 y0)) (fun y0 y1 y2 y3 y4=>(hid (it5 Kb1 (hid (ct3 Kb1 Kb2)) (hid (ct4 Kb1 (hid (ct3 Kb1 Kb2)))) 100000)) (fr5 y0 y1 y2 y3 y4)):=by kernel_rfl
theorem P3 (aA x6 x7 x8) (Kb1 Kb2:Kont U El):ct3 Kb1 Kb2 (fr3 aA x6 x7 x8)=sh3 aA x6 x7 x8 (fun y0 y1 y2 y3=>Kb2 (fr2 y0 y1 y2 y3)):=by kernel_rfl
theorem P4 (aA x6 x7 x8 b5) (Kb1 Kb3:Kont U El):ct4 Kb1 Kb3 (fr4 aA x6 x7 x8 b5)=sh4 aA x6 x7 x8 b5 (fun y0 y1 y2 y3=>Kb3 (fr3 y0 y1 y2 y3)):=by kernel_rfl
theorem P5 (aA x6 x7 x8 b5) (Kb1 Kb3 Kb4 Kb5:Kont U El):exec X (cdp [1,1,0,1,0,0,1,1,0,0,1,0,0,0] bd) (.seq (some nm6) .d .d) (fr5 aA x6 x7 x8 b5) (cutK nm5 Kb5) (Eblk 2 (cutK nm4 Kb4) (Eblk 1 (cutK nm3 Kb3) (Eblk 0 (cutK nm1 Kb1) (fun _ _=>none)))) RR=sh5 aA x6 x7 x8 b5 (fun y0 y1 y2 y3 y4=>Kb4 (fr4 y0 y1 y2 y3 y4)) (fun y0 y1 y2 y3 y4=>(hid (ct6 Kb1 Kb3 Kb4 Kb5)) (fr6 y0 y1 y2 y3 y4)):=by kernel_rfl
theorem P6 (aA x6 x7 x8 b5) (Kb1 Kb3 Kb4 Kb5:Kont U El):ct6 Kb1 Kb3 Kb4 Kb5 (fr6 aA x6 x7 x8 b5)=sh6 aA x6 x7 x8 b5 (fun y0 y1 y2 y3 y4=>Kb5 (fr5 y0 y1 y2 y3 y4)):=by kernel_rfl
noncomputable def f1 (aA:List Pt):R:=sh1 aA
noncomputable def f3 (k2:Y2) (aA:List Pt) (x6:List Pt) (x7:Int) (x8:Int):R:=sh3 aA x6 x7 x8 k2
noncomputable def f4 (k2:Y2) (aA:List Pt) (x6:List Pt) (x7:Int) (x8:Int) (b5:Pt):R:=sh4 aA x6 x7 x8 b5 (f3 k2)
noncomputable def f6 (k2:Y2) (k5:Y5) (aA:List Pt) (x6:List Pt) (x7:Int) (x8:Int) (b5:Pt):R:=sh6 aA x6 x7 x8 b5 k5
noncomputable def f5 (k2:Y2):Nat→Y5
  | 0=>fun _ _ _ _ _=>none
  | n+1=>fun aA x6 x7 x8 b5=>sh5 aA x6 x7 x8 b5 (f4 k2) (f6 k2 (f5 k2 n))
noncomputable def f2:Nat→Y2
  | 0=>fun _ _ _ _=>none
  | n+1=>fun aA x6 x7 x8=>sh2 aA x6 x7 x8 f1 (f5 (f2 n) 100000)
noncomputable def f0 (l:List Pt):R:=sh0 l (f2 100000)
theorem T1 (aA):(hid ct1) (fr1 aA)=f1 aA:=by
  refine (congrFun (hid_eq _) _).trans <| (P1 aA).trans ?_
  show _=sh1 aA
  rfl
theorem T3 (KL2:Kont U El) (k2:Y2) (h2:∀ aA x6 x7 x8,KL2 (fr2 aA x6 x7 x8)=k2 aA x6 x7 x8) (aA x6 x7 x8):(hid (ct3 (hid ct1) KL2)) (fr3 aA x6 x7 x8)=f3 k2 aA x6 x7 x8:=by
  refine (congrFun (hid_eq _) _).trans <| (P3 aA x6 x7 x8 (hid ct1) KL2).trans ?_
  show _=sh3 aA x6 x7 x8 k2
  simp only [h2]
theorem T4 (KL2:Kont U El) (k2:Y2) (h2:∀ aA x6 x7 x8,KL2 (fr2 aA x6 x7 x8)=k2 aA x6 x7 x8) (aA x6 x7 x8 b5):(hid (ct4 (hid ct1) (hid (ct3 (hid ct1) KL2)))) (fr4 aA x6 x7 x8 b5)=f4 k2 aA x6 x7 x8 b5:=by
  refine (congrFun (hid_eq _) _).trans <| (P4 aA x6 x7 x8 b5 (hid ct1) (hid (ct3 (hid ct1) KL2))).trans ?_
  show _=sh4 aA x6 x7 x8 b5 (f3 k2)
  simp only [T3 KL2 k2 h2]
theorem T6 (KL2:Kont U El) (KL5:Kont U El) (k2:Y2) (k5:Y5) (h2:∀ aA x6 x7 x8,KL2 (fr2 aA x6 x7 x8)=k2 aA x6 x7 x8) (h5:∀ aA x6 x7 x8 b5,KL5 (fr5 aA x6 x7 x8 b5)=k5 aA x6 x7 x8 b5) (aA x6 x7 x8 b5):(hid (ct6 (hid ct1) (hid (ct3 (hid ct1) KL2)) (hid (ct4 (hid ct1) (hid (ct3 (hid ct1) KL2)))) KL5)) (fr6 aA x6 x7 x8 b5)=f6 k2 k5 aA x6 x7 x8 b5:=by
  refine (congrFun (hid_eq _) _).trans <| (P6 aA x6 x7 x8 b5 (hid ct1) (hid (ct3 (hid ct1) KL2)) (hid (ct4 (hid ct1) (hid (ct3 (hid ct1) KL2)))) KL5).trans ?_
  show _=sh6 aA x6 x7 x8 b5 k5
  simp only [h5]
theorem T5 (KL2:Kont U El) (k2:Y2) (h2:∀ aA x6 x7 x8,KL2 (fr2 aA x6 x7 x8)=k2 aA x6 x7 x8):∀ (n:Nat),∀ aA x6 x7 x8 b5,it5 (hid ct1) (hid (ct3 (hid ct1) KL2)) (hid (ct4 (hid ct1) (hid (ct3 (hid ct1) KL2)))) n (fr5 aA x6 x7 x8 b5)=f5 k2 n aA x6 x7 x8 b5:=by
  intro n
  induction n with
  | zero=>intros; rfl
  | succ n ih =>
    intro aA x6 x7 x8 b5
    refine (P5 aA x6 x7 x8 b5 (hid ct1) (hid (ct3 (hid ct1) KL2)) (hid (ct4 (hid ct1) (hid (ct3 (hid ct1) KL2)))) (it5 (hid ct1) (hid (ct3 (hid ct1) KL2)) (hid (ct4 (hid ct1) (hid (ct3 (hid ct1) KL2)))) n)).trans ?_
    show _=sh5 aA x6 x7 x8 b5 (f4 k2) (f6 k2 (f5 k2 n))
    simp only [T4 KL2 k2 h2,T6 KL2 (it5 (hid ct1) (hid (ct3 (hid ct1) KL2)) (hid (ct4 (hid ct1) (hid (ct3 (hid ct1) KL2)))) n) k2 (f5 k2 n) h2 ih]
theorem H5 (KL2:Kont U El) (k2:Y2) (h2:∀ aA x6 x7 x8,KL2 (fr2 aA x6 x7 x8)=k2 aA x6 x7 x8) (aA x6 x7 x8 b5):hid (it5 (hid ct1) (hid (ct3 (hid ct1) KL2)) (hid (ct4 (hid ct1) (hid (ct3 (hid ct1) KL2)))) 100000) (fr5 aA x6 x7 x8 b5)=f5 k2 100000 aA x6 x7 x8 b5:=(congrFun (hid_eq _) _).trans (T5 KL2 k2 h2 100000 aA x6 x7 x8 b5)
theorem T2:∀ (n:Nat),∀ aA x6 x7 x8,it2 (hid ct1) n (fr2 aA x6 x7 x8)=f2 n aA x6 x7 x8:=by
  intro n
  induction n with
  | zero=>intros; rfl
  | succ n ih =>
    intro aA x6 x7 x8
    refine (P2 aA x6 x7 x8 (hid ct1) (it2 (hid ct1) n)).trans ?_
    show _=sh2 aA x6 x7 x8 f1 (f5 (f2 n) 100000)
    simp only [T1,H5 (it2 (hid ct1) n) (f2 n) ih]
theorem H2 (aA x6 x7 x8):hid (it2 (hid ct1) 100000) (fr2 aA x6 x7 x8)=f2 100000 aA x6 x7 x8:=(congrFun (hid_eq _) _).trans (T2 100000 aA x6 x7 x8)
theorem T0 (l):exec X bd (.seq none .d (.seq none .d (.seq (some nm1) (.seq none .d (.block (.loop nm2 (.seq none .d (.seq none .d (.seq (some nm3) (.block (.seq none .d (.seq (some nm4) (.block (.loop nm5 (.seq (some nm6) .d .d))) .d))) .d)))))) .d))) (fr0 l) RR (fun _ _=>none) RR=f0 l:=by
  refine (P0 l).trans ?_
  show _=sh0 l (f2 100000)
  simp only [H2]
theorem run (l):runFn X bd (.seq none .d (.seq none .d (.seq (some nm1) (.seq none .d (.block (.loop nm2 (.seq none .d (.seq none .d (.seq (some nm3) (.block (.seq none .d (.seq (some nm4) (.block (.loop nm5 (.seq (some nm6) .d .d))) .d))) .d)))))) .d))) nmR [2] [2] [(.lst .pt l)]=f0 l:=T0 l
noncomputable def outL (z:List Pt):R:=some (.ful 0,[(0,.rows .pt z)])
theorem inner (K2 : Y2) (l : List Pt) (x7 x8 : Int) (p : Pt) (hp : vB p = true) : ∀ (n : Nat) (rs : List Pt), rs.length < n → rs.length ≤ 1000 → (∀ x ∈ rs, vB x = true) → f5 K2 n rs.reverse l x7 x8 p = f4 K2 (popR p rs).reverse l x7 x8 p := by
  intro n
  induction n with
  | zero=>intro rs h; omega
  | succ n ih =>
    intro rs h1 h2 h3
    show sh5 rs.reverse l x7 x8 p (f4 K2) (f6 K2 (f5 K2 n))=_
    unfold sh5
    match rs,h1,h2,h3 with
    | [],_,_,_=>rfl
    | [a],_,_,_=>rfl
    | a :: b :: r, h1, h2, h3 =>
      have hlen:(a :: b :: r).reverse.length=r.length+2:=by simp
      simp only [List.length_cons] at h1 h2
      have hv1:=h3 a (by simp)
      have hv2:=h3 b (by simp)
      have w2:IntKind.wrap .i64 (Int.ofNat (a :: b :: r).reverse.length - 2)=((r.length:Nat):Int):=by rw [hlen,wrapI (by simp<;>omega) (by simp<;>omega)]; simp<;>omega
      have w1:IntKind.wrap .i64 (Int.ofNat (a :: b :: r).reverse.length - 1)=((r.length+1:Nat):Int):=by rw [hlen,wrapI (by simp<;>omega) (by simp<;>omega)]; simp<;>omega
      have hi2:r.length < (a :: b :: r).reverse.length:=by omega
      have hi1:r.length+1 < (a :: b :: r).reverse.length:=by omega
      have g2:(a :: b :: r).reverse[r.length]=b:=by rw [List.getElem_reverse]; simp
      have g1:(a :: b :: r).reverse[r.length+1]=a:=by rw [List.getElem_reverse]; simp
      rw [iltT (show (1:Int) < Int.ofNat (a :: b :: r).reverse.length by rw [hlen]; simp<;>omega),w2,w1]
      simp only [toNat_nat]
      rw [inbT hi2,nltT hi2,inbT hi1,nltT hi1,getD_lt hi2,getD_lt hi1,g2,g1,hv1,hv2,hp]
      simp only [chkT,condT,Bool.and_self]
      simp only [popR]
      cases ile (trn b a p) 0
      · rfl
      · show f6 K2 (f5 K2 n) _ l x7 x8 p = _
        show sh6 _ l x7 x8 p (f5 K2 n)=_
        unfold sh6
        rw [w1]
        simp only [toNat_nat,Nat.sub_zero]
        rw [ileT (Int.le_refl 0),ileT (show (0:Int)≤((r.length+1:Nat):Int) by omega),ileT (show ((r.length+1:Nat):Int)≤Int.ofNat (a :: b :: r).reverse.length by rw [hlen]; simp),nltT (Nat.succ_pos _)]
        have ht:List.take (r.length+1) (a :: b :: r).reverse=(b :: r).reverse:=by
          rw [List.reverse_cons,List.take_append_of_le_length (by simp),List.take_of_length_le (by simp)]
        rw [ht]
        exact ih (b :: r) (by simp only [List.length_cons]; omega) (by simp only [List.length_cons]; omega) fun x hx=>h3 x (List.mem_cons_of_mem _ hx)
theorem chain_sub (l:List Pt):∀ x∈chainL l,x∈l:=by
  induction l using snocI with
  | h0=>intro x h; exact h
  | h1 l p ih =>
    rw [chain_snoc]
    intro x hx
    rcases List.mem_cons.1 hx with rfl | hx
    · simp
    · exact List.mem_append_left _ (ih x (popR_sub p _ x hx))
theorem f0_eq (l : List Pt) (h : (allB l && nle (List.length l) 1000) = true) : f0 l = outL (List.reverse (chainL l)) := by
  obtain ⟨ha,hl⟩:=and2 h
  have hl:=nleI hl
  have ha:=allB_iff.1 ha
  have key:∀ (n i:Nat),l.length < n+i→i≤l.length→f2 n (chainL (l.take i)).reverse l (Int.ofNat l.length) (i:Int)=outL (chainL l).reverse:=by
    intro n
    induction n with
    | zero=>intro i h1 h2; omega
    | succ n ih =>
      intro i h1 h2
      show sh2 _ l (Int.ofNat l.length) i f1 (f5 (f2 n) 100000)=_
      unfold sh2
      by_cases hi:i < l.length
      · rw [iltT (by simp <;> omega), inbT hi, toNat_nat, getD_lt hi]
        simp only [chkT,condT]
        have hc:=chain_len (l.take i)
        rw [List.length_take] at hc
        rw [inner (f2 n) l _ _ l[i] (ha _ (List.getElem_mem hi)) 100000 (chainL (l.take i)) (by omega) (by omega) fun x hx=>ha x (List.mem_of_mem_take (chain_sub _ x hx))]
        have hp:=popR_len l[i] (chainL (l.take i))
        show sh4 _ l _ _ l[i] (f3 (f2 n))=_
        unfold sh4
        rw [show nle ((List.length (popR l[i] (chainL (l.take i))).reverse+List.length ([l[i]]:List Pt)) * 16) 140737488355328=true from nleT (by simp<;>omega),show nle (List.length (popR l[i] (chainL (l.take i))).reverse+List.length ([l[i]]:List Pt)) 9223372036854775807=true from nleT (by simp<;>omega)]
        show f2 n _ l _ (IntKind.wrap .i64 ((i:Int)+1))=_
        rw [wrapS i (by omega)]
        have:=ih (i+1) (by omega) hi
        rw [take_lt hi,chain_snoc,List.reverse_cons] at this
        exact this
      · have : i = l.length := by omega
        subst this
        rw [iltF (by simp),List.take_length]
        rfl
  exact key 100000 0 (by omega) (by omega)
theorem ok:CtxOk Try.prog X:=ctxOk tab (spC turn.spOk spN) dpN
theorem okM:MOk Try.prog X:=fun g sp h=>by cases h
theorem spec (l:List Pt) (h:((allB l&&nle (List.length l) 1000))=true):CallSpec Try.prog E 56 [(.lst .pt l)] (.ful 0) [(0,.rows .pt (List.reverse (chainL l)))] :=
  runFn_sound ok okM Try.call56 Try.func56 (by kernel_rfl) (by kernel_rfl) (by kernel_rfl) (by show 1≤43; decide) (by decide) (by rfl) ((run l).trans (f0_eq l h))
noncomputable def sp:Sp U El:=fun args k=>match args with
  | [.lst .pt l]=>chk ((allB l&&nle (List.length l) 1000)) (k (.ful 0) [(0,.rows .pt (List.reverse (chainL l)))])
  | _=>none
theorem spOk:SpOk Try.prog E 56 sp where
  det:=fun vs=>by
    unfold sp
    split
    · exact det_c _ _ _
    · exact ⟨none,fun _=>rfl⟩
  ok:=fun vs k r h=>by
    unfold sp at h
    split at h
    · obtain ⟨h1, h2⟩ := chk_some h
      exact ⟨_,_,spec _ h1,h2⟩
    · cases h
end chain
noncomputable def hulE (l:List Pt):Int:=bif allB l then (bif (Int.ofNat l.length) == (0:Int) then 14 else bif ilt 1000 (Int.ofNat l.length) then 4 else 0) else 1
noncomputable def hulL (l:List Pt):List Pt:=bif hulE l == 0 then hulC l else []
theorem hulE_zero {l:List Pt} (h1:allB l=true) (h2:l≠[]) (h3:l.length≤1000):hulE l=0:=by
  unfold hulE
  rw [h1,beq_eq_false_iff_ne.2 (show Int.ofNat l.length≠0 by have:=List.length_pos_iff.2 h2; simp<;>omega),iltF (by simp<;>omega)]
  rfl
theorem rev_tail (rs:List Pt):List.take (rs.reverse.length - 1) rs.reverse=rs.tail.reverse:=by
  cases rs with
  | nil=>rfl
  | cons a r=>rw [List.reverse_cons,List.tail_cons]; simp
theorem f_len {l:List Pt} (h:l.length≤1000) (h0:0 < l.length):IntKind.wrap .i64 (Int.ofNat l.length - 1)=((l.length - 1:Nat):Int):=by
  rw [wrapI (by simp<;>omega) (by simp<;>omega)]; simp<;>omega
theorem chain_two {l:List Pt} (h:l.Pairwise ltP) (h2:2≤l.length):2≤(chainL l).length:=by
  have hne:l≠[]:=fun e=>by rw [e] at h2; simp at h2
  obtain ⟨c1,M,r1,e1,_,hM⟩:=chain_ch l h hne
  rw [e1] at c1 ⊢
  cases r1 with
  | cons b r=>simp
  | nil =>
    exfalso
    match l,h2,h with
    | a :: b :: r, _, h =>
      have ha:a=M:=le_antisymm (hM a (by simp)) (c1.2 a (by simp))
      have hb:b=M:=le_antisymm (hM b (by simp)) (c1.2 b (by simp))
      have:=(List.pairwise_cons.1 h).1 b (by simp)
      rw [ha,hb] at this
      exact ltP_irrefl _ this
theorem chain_two' {l:List Pt} (h:l.Pairwise ltP) (h2:2≤l.length):2≤(chainL l.reverse).length:=by
  have hN:(l.reverse.map negP).Pairwise ltP:=List.pairwise_map.2 (List.pairwise_reverse.2 (h.imp fun {a b} h=>(lt_neg b a).2 h))
  have:=chain_two hN (by simpa using h2)
  rw [chain_neg] at this
  simpa using this
namespace hull
noncomputable def bd:Code:=(Try.f30.body).getD .skip
noncomputable def X:Ctx U El:=⟨E,tds,zeros,eqs,specOf [(39,all.sp),(51,cloneP.sp),(56,chain.sp)],100000,46,dspecOf [],mspecOf [(52,sortPSp),(55,(mcSp compactP.sp)),(57,revSp)]⟩
noncomputable def nmR:Norm U:=⟨[],[2,3],[],[(2,.pt)],[],[],[]⟩
noncomputable def RR:Kont U El:=fun st=>normK nmR st (retFin [2,3] [])
noncomputable def fr0 (l:List Pt):St U El:=⟨[(0,(.lst .pt l))],[]⟩
noncomputable def sh0 (l:List Pt):R :=
  chk (nle (List.length l) 90000) (condB (!(allB l)) (some ((.tup [(.lst .pt ([]:List Pt)),(.int .i64 (1:Int))]),[])) (condB ((Int.ofNat (List.length l)) == (0:Int)) (some ((.tup [(.lst .pt ([]:List Pt)),(.int .i64 (14:Int))]),[])) (condB (ilt (1000:Int) (Int.ofNat (List.length l))) (some ((.tup [(.lst .pt ([]:List Pt)),(.int .i64 (4:Int))]),[])) (chk (nle (List.length l) 90000) (chk (true&&(anyL (l)&&nle (List.length (l)) 4611686018427387903)) (chk (nle (List.length (sortP (l))) 4000) (condB ((Int.ofNat (List.length (compactL (sortP (l))))) == (1:Int)) (some ((.tup [(.lst .pt (compactL (sortP (l)))),(.int .i64 (0:Int))]),[])) (chk ((allB (compactL (sortP (l)))&&nle (List.length (compactL (sortP (l)))) 1000)) (chk (nle (List.length (compactL (sortP (l)))) 100000) (chk ((allB (List.reverse (compactL (sortP (l))))&&nle (List.length (List.reverse (compactL (sortP (l))))) 1000)) (chk (ile 0 (0:Int)&&ile (0:Int) (IntKind.wrap .i64 ((Int.ofNat (List.length (List.reverse (chainL (compactL (sortP (l))))))) - (1:Int)))&&ile (IntKind.wrap .i64 ((Int.ofNat (List.length (List.reverse (chainL (compactL (sortP (l))))))) - (1:Int))) (Int.ofNat (List.length (List.reverse (chainL (compactL (sortP (l)))))))) (chk (ile 0 (0:Int)&&ile (0:Int) (IntKind.wrap .i64 ((Int.ofNat (List.length (List.reverse (chainL (List.reverse (compactL (sortP (l)))))))) - (1:Int)))&&ile (IntKind.wrap .i64 ((Int.ofNat (List.length (List.reverse (chainL (List.reverse (compactL (sortP (l)))))))) - (1:Int))) (Int.ofNat (List.length (List.reverse (chainL (List.reverse (compactL (sortP (l))))))))) (chk ((true&&nlt 0 (Int.toNat (IntKind.wrap .i64 ((Int.ofNat (List.length (List.reverse (chainL (compactL (sortP (l))))))) - (1:Int))) - 0))&&(nle ((List.length (List.take (Int.toNat (IntKind.wrap .i64 ((Int.ofNat (List.length (List.reverse (chainL (compactL (sortP (l))))))) - (1:Int))) - 0) (List.reverse (chainL (compactL (sortP (l))))))+List.length (List.take (Int.toNat (IntKind.wrap .i64 ((Int.ofNat (List.length (List.reverse (chainL (List.reverse (compactL (sortP (l)))))))) - (1:Int))) - 0) (List.drop 0 (List.reverse (chainL (List.reverse (compactL (sortP (l))))))))) * 16) 140737488355328&&nle (List.length (List.take (Int.toNat (IntKind.wrap .i64 ((Int.ofNat (List.length (List.reverse (chainL (compactL (sortP (l))))))) - (1:Int))) - 0) (List.reverse (chainL (compactL (sortP (l))))))+List.length (List.take (Int.toNat (IntKind.wrap .i64 ((Int.ofNat (List.length (List.reverse (chainL (List.reverse (compactL (sortP (l)))))))) - (1:Int))) - 0) (List.drop 0 (List.reverse (chainL (List.reverse (compactL (sortP (l))))))))) 9223372036854775807)) (some ((.tup [(.lst .pt ((List.take (Int.toNat (IntKind.wrap .i64 ((Int.ofNat (List.length (List.reverse (chainL (compactL (sortP (l))))))) - (1:Int))) - 0) (List.reverse (chainL (compactL (sortP (l))))))++(List.take (Int.toNat (IntKind.wrap .i64 ((Int.ofNat (List.length (List.reverse (chainL (List.reverse (compactL (sortP (l)))))))) - (1:Int))) - 0) (List.drop 0 (List.reverse (chainL (List.reverse (compactL (sortP (l)))))))))),(.int .i64 (0:Int))]),[])))))))))))))))
theorem P0 (l):exec X (cdp [] bd) (.seq none .d (.seq none .d (.seq none .d (.seq none .d (.seq none .d (.seq none .d (.seq none .d (.seq none .d (.seq none .d (.seq none (.region [(10,30000)]) .d)))))))))) (fr0 l) RR (fun _ _=>none) RR=sh0 l:=by kernel_rfl
noncomputable def f0 (l:List Pt):R:=sh0 l
theorem T0 (l):exec X bd (.seq none .d (.seq none .d (.seq none .d (.seq none .d (.seq none .d (.seq none .d (.seq none .d (.seq none .d (.seq none .d (.seq none (.region [(10,30000)]) .d)))))))))) (fr0 l) RR (fun _ _=>none) RR=f0 l:=by
  refine (P0 l).trans ?_
  show _=sh0 l
  rfl
theorem run (l):runFn X bd (.seq none .d (.seq none .d (.seq none .d (.seq none .d (.seq none .d (.seq none .d (.seq none .d (.seq none .d (.seq none .d (.seq none (.region [(10,30000)]) .d)))))))))) nmR [2,3] [] [(.lst .pt l)]=f0 l:=T0 l
noncomputable def outH (z:List Pt) (e:Int):R:=some (.tup [.lst .pt z,.int .i64 e],[])
theorem f0_eq (l : List Pt) (h : nle (List.length l) 90000 = true) : f0 l = outH (hulL l) (hulE l) := by
  show chk _ _=_
  rw [h,chkT]
  unfold hulL hulE
  cases ha:allB l
  · rfl
  · by_cases h0 : (Int.ofNat l.length) = 0
    · rw [beq_iff_eq.2 h0]; rfl
    · rw [beq_eq_false_iff_ne.2 h0]
      by_cases h1:1000 < Int.ofNat l.length
      · rw [iltT h1]; rfl
      · rw [iltF h1]
        have hl:l.length≤1000:=by simp at h1; omega
        have hs:(sortP l).length=l.length:=(sortP_perm l).length_eq
        rw [show nle (sortP l).length 4000=true from nleT (by omega),show nle l.length 4611686018427387903=true from nleT (by omega)]
        simp only [show compactL (sortP l)=ascL l from rfl]
        simp only [condF,condT,chkT,Bool.not_true,cond_true,cond_false,beq_self_eq_true]
        show condB ((Int.ofNat (ascL l).length) == (1:Int)) _ _=outH (hulC l) 0
        unfold hulC
        cases h2:(Int.ofNat (ascL l).length) == (1:Int)
        · have hal := ascL_le l
          have hav:allB (ascL l)=true:=allB_sub ha fun x hx=>(ascL_mem l x).1 hx
          have havr:allB (ascL l).reverse=true:=allB_sub hav fun x hx=>by simpa using hx
          have h3:2≤(ascL l).length:=by
            have:(ascL l).length≠0:=fun e=>by
              have e2:=List.eq_nil_of_length_eq_zero e
              have:l≠[]:=fun e=>h0 (by rw [e]; rfl)
              obtain ⟨x,hx⟩:=List.exists_mem_of_ne_nil l this
              have:=(ascL_mem l x).2 hx
              rw [e2] at this; cases this
            have:=beq_eq_false_iff_ne.1 h2
            simp at this
            omega
          have t1:=chain_two (ascL_asc l) h3
          have t2:=chain_two' (ascL_asc l) h3
          have u1:=chain_len (ascL l)
          have u2:=chain_len (ascL l).reverse
          rw [List.length_reverse] at u2
          have q1:(chainL (ascL l)).reverse.length≤1000:=by rw [List.length_reverse]; omega
          have q2:(chainL (ascL l).reverse).reverse.length≤1000:=by rw [List.length_reverse]; omega
          have p1:0 < (chainL (ascL l)).reverse.length:=by rw [List.length_reverse]; omega
          have p2:0 < (chainL (ascL l).reverse).reverse.length:=by rw [List.length_reverse]; omega
          have e1:=f_len q1 p1
          have e2:=f_len q2 p2
          have r1:=rev_tail (chainL (ascL l))
          have r2:=rev_tail (chainL (ascL l).reverse)
          have w1:nlt 0 ((chainL (ascL l)).reverse.length - 1)=true:=nltT (by rw [List.length_reverse]; omega)
          show chk (allB (ascL l)&&nle (ascL l).length 1000) (chk (nle (ascL l).length 100000) (chk (allB (ascL l).reverse&&nle (ascL l).reverse.length 1000) _))=_
          rw [hav,havr,nleT (show (ascL l).length≤1000 by omega),nleT (show (ascL l).length≤100000 by omega),nleT (show (ascL l).reverse.length≤1000 by rw [List.length_reverse]; omega)]
          simp only [chkT,Bool.and_self]
          change chk (_&&_&&ile (IntKind.wrap .i64 (Int.ofNat (chainL (ascL l)).reverse.length - 1)) (Int.ofNat (chainL (ascL l)).reverse.length)) _=_
          rw [e1,e2]
          simp only [toNat_nat,Nat.sub_zero,List.drop_zero]
          rw [r1,r2,w1,ileT (Int.le_refl 0),ileT (show (0:Int)≤(((chainL (ascL l)).reverse.length - 1:Nat):Int) by omega),ileT (show (((chainL (ascL l)).reverse.length - 1:Nat):Int)≤Int.ofNat (chainL (ascL l)).reverse.length by simp),
            ileT (show (0:Int)≤(((chainL (ascL l).reverse).reverse.length - 1:Nat):Int) by omega),ileT (show (((chainL (ascL l).reverse).reverse.length - 1:Nat):Int)≤Int.ofNat (chainL (ascL l).reverse).reverse.length by simp)]
          have z1:(chainL (ascL l)).tail.reverse.length≤1000:=by simp<;>omega
          have z2:(chainL (ascL l).reverse).tail.reverse.length≤1000:=by simp<;>omega
          rw [nleT (show ((chainL (ascL l)).tail.reverse.length+(chainL (ascL l).reverse).tail.reverse.length) * 16≤140737488355328 by omega),nleT (show (chainL (ascL l)).tail.reverse.length+(chainL (ascL l).reverse).tail.reverse.length≤9223372036854775807 by omega)]
          rfl
        · rfl
theorem ok:CtxOk Try.prog X:=ctxOk tab (spC all.spOk (spC cloneP.spOk (spC chain.spOk spN))) dpN
theorem okM:MOk Try.prog X:=mspecOf_ok _ (mpC (sortPOk rfl ok) (mpC (mcSp_ok ok compactP.spOk) (mpC (revOk rfl ok) mpN)))
theorem spec (l:List Pt) (h:(nle (List.length l) 90000)=true):CallSpec Try.prog E 30 [(.lst .pt l)] (.tup [(.lst .pt (hulL l)),(.int .i64 (hulE l))]) [] :=
  runFn_sound ok okM Try.call30 Try.func30 (by kernel_rfl) (by kernel_rfl) (by kernel_rfl) (by show 1≤46; decide) (by decide) (by rfl) ((run l).trans (f0_eq l h))
noncomputable def sp:Sp U El:=fun args k=>match args with
  | [.lst .pt l]=>chk (nle (List.length l) 90000) (k (.tup [(.lst .pt (hulL l)),(.int .i64 (hulE l))]) [])
  | _=>none
theorem spOk:SpOk Try.prog E 30 sp where
  det:=fun vs=>by
    unfold sp
    split
    · exact det_c _ _ _
    · exact ⟨none,fun _=>rfl⟩
  ok:=fun vs k r h=>by
    unfold sp at h
    split at h
    · obtain ⟨h1, h2⟩ := chk_some h
      exact ⟨_,_,spec _ h1,h2⟩
    · cases h
end hull
end Go.Proofs.Ytcabnkclelgoeaa
