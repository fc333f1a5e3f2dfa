/- slices.Compact of points; what sorting and leaving out doubles come to. -/
import Derived.Test.YtcabnkclelgoeaaSO
namespace Go.Proofs.Ytcabnkclelgoeaa
set_option linter.unusedSectionVars false
set_option linter.unusedSimpArgs false
set_option linter.unusedVariables false
set_option maxRecDepth 100000
noncomputable def compA:Pt→List Pt→List Pt
  | _,[]=>[]
  | p,x :: l=>bif eqP x p then compA p l else x :: compA x l
noncomputable def compactL:List Pt→List Pt
  | []=>[]
  | x :: l=>x :: compA x l
namespace compactP
noncomputable def bd:Code:=(Try.f55.body).getD .skip
noncomputable def X:Ctx U El:=⟨E,tds,zeros,eqs,specOf [],100000,61,dspecOf [],fun _=>none⟩
noncomputable def nmR:Norm U:=⟨[(2,.pt)],[2],[2],[],[],[],[]⟩
noncomputable def RR:Kont U El:=fun st=>normK nmR st (retM [2])
noncomputable def nm1:Norm U:=⟨[],[0],[1000000000],[],[],[],[]⟩
noncomputable def nm2:Norm U:=⟨[],[0,3],[1000000000],[],[],[],[]⟩
noncomputable def nm3:Norm U:=⟨[],[0,3],[1000000000],[],[],[],[]⟩
noncomputable def nm4:Norm U:=⟨[],[0,3],[1000000000],[],[],[],[]⟩
noncomputable def nm5:Norm U:=⟨[],[0,3,4,5],[1000000000],[],[],[],[]⟩
noncomputable def nm6:Norm U:=⟨[],[0,3,4,5],[1000000000],[],[],[],[]⟩
abbrev Y1:=(List Pt)→R
abbrev Y2:=Int→(List Pt)→R
abbrev Y3:=Int→(List Pt)→R
abbrev Y4:=Int→(List Pt)→R
abbrev Y5:=Int→Nat→Nat→Int→(List Pt)→R
abbrev Y6:=Int→Nat→Nat→Int→(List Pt)→R
noncomputable def fr0 (l:List Pt):St U El:=⟨[(0,(.ful 1000000000))],[(1000000000,(.rows .pt l))]⟩
noncomputable def fr1 (aA:List Pt):St U El:=⟨[(0,(.ful 1000000000))],[(1000000000,(.rows .pt aA))]⟩
noncomputable def fr2 (bA:Int) (aA:List Pt):St U El:=⟨[(0,(.ful 1000000000)),(3,(.int .i64 bA))],[(1000000000,(.rows .pt aA))]⟩
noncomputable def fr3 (bA:Int) (aA:List Pt):St U El:=⟨[(0,(.ful 1000000000)),(3,(.int .i64 bA))],[(1000000000,(.rows .pt aA))]⟩
noncomputable def fr4 (bA:Int) (aA:List Pt):St U El:=⟨[(0,(.ful 1000000000)),(3,(.int .i64 bA))],[(1000000000,(.rows .pt aA))]⟩
noncomputable def fr5 (bA:Int) (s24_lo:Nat) (s24_n:Nat) (cA:Int) (aA:List Pt):St U El:=⟨[(0,(.ful 1000000000)),(3,(.int .i64 bA)),(4,(.own 1000000000 s24_lo s24_n)),(5,(.int .i64 cA))],[(1000000000,(.rows .pt aA))]⟩
noncomputable def fr6 (bA:Int) (s24_lo:Nat) (s24_n:Nat) (cA:Int) (aA:List Pt):St U El:=⟨[(0,(.ful 1000000000)),(3,(.int .i64 bA)),(4,(.own 1000000000 s24_lo s24_n)),(5,(.int .i64 cA))],[(1000000000,(.rows .pt aA))]⟩
noncomputable def sh0 (l:List Pt) (k2:Y2):R :=
  condB (ilt (Int.ofNat (List.length l)) (2:Int)) (some ((.ful 2),[(2,.rows .pt l)])) (k2 (1:Int) l)
noncomputable def sh1 (aA:List Pt):R :=
  some ((.ful 2),[(2,.rows .pt aA)])
noncomputable def sh2 (bA:Int) (aA:List Pt) (k1:Y1) (k3:Y3) (k5:Y5):R :=
  condB (ilt bA (Int.ofNat (List.length aA))) (chk (inb bA (List.length aA)) (chk (nlt (Int.toNat bA) (List.length aA)) (chk (inb (IntKind.wrap .i64 (bA - (1:Int))) (List.length aA)) (chk (nlt (Int.toNat (IntKind.wrap .i64 (bA - (1:Int)))) (List.length aA)) (condB (((List.getD aA (Int.toNat bA) d_pt).px == (List.getD aA (Int.toNat (IntKind.wrap .i64 (bA - (1:Int)))) d_pt).px)&&(((List.getD aA (Int.toNat bA) d_pt).py == (List.getD aA (Int.toNat (IntKind.wrap .i64 (bA - (1:Int)))) d_pt).py)&&true)) (chk (ile 0 bA&&ile bA (Int.ofNat (List.length aA))&&ile (Int.ofNat (List.length aA)) (Int.ofNat (List.length aA))) (k5 bA (Int.toNat bA) (Int.toNat (Int.ofNat (List.length aA)) - (Int.toNat bA)) (1:Int) aA)) (k3 bA aA)))))) (k1 aA)
noncomputable def sh3 (bA:Int) (aA:List Pt) (k2:Y2):R :=
  k2 (IntKind.wrap .i64 (bA+(1:Int))) aA
noncomputable def sh4 (bA:Int) (aA:List Pt):R :=
  chk (ile 0 bA&&ile bA (Int.ofNat (List.length aA))&&ile (Int.ofNat (List.length aA)) (Int.ofNat (List.length aA))) (chk (true&&(nlt 0 (Int.toNat (Int.ofNat (List.length aA)) - (Int.toNat bA))&&nle ((Int.toNat bA)+(Int.toNat (Int.ofNat (List.length aA)) - (Int.toNat bA))) (List.length aA))) (chk (ile 0 (0:Int)&&ile (0:Int) bA&&ile bA (Int.ofNat (List.length (List.take (Int.toNat bA) aA++(List.replicate (Int.toNat (Int.ofNat (List.length aA)) - (Int.toNat bA)) d_pt++List.drop ((Int.toNat bA)+(Int.toNat (Int.ofNat (List.length aA)) - (Int.toNat bA))) aA))))) (chk (true&&nlt 0 (Int.toNat bA - 0)) (some ((.ful 2),[(2,.rows .pt (List.take (Int.toNat bA - 0) (List.take (Int.toNat bA) aA++(List.replicate (Int.toNat (Int.ofNat (List.length aA)) - (Int.toNat bA)) d_pt++List.drop ((Int.toNat bA)+(Int.toNat (Int.ofNat (List.length aA)) - (Int.toNat bA))) aA))))])))))
noncomputable def sh5 (bA:Int) (s24_lo:Nat) (s24_n:Nat) (cA:Int) (aA:List Pt) (k4:Y4) (k6:Y6):R :=
  condB (ilt cA (Int.ofNat s24_n)) (chk (inb cA s24_n) (chk (nlt (s24_lo+(Int.toNat cA)) (List.length aA)) (chk (inb (IntKind.wrap .i64 (cA - (1:Int))) s24_n) (chk (nlt (s24_lo+(Int.toNat (IntKind.wrap .i64 (cA - (1:Int))))) (List.length aA)) (condB (!(((List.getD aA (s24_lo+(Int.toNat cA)) d_pt).px == (List.getD aA (s24_lo+(Int.toNat (IntKind.wrap .i64 (cA - (1:Int))))) d_pt).px)&&(((List.getD aA (s24_lo+(Int.toNat cA)) d_pt).py == (List.getD aA (s24_lo+(Int.toNat (IntKind.wrap .i64 (cA - (1:Int))))) d_pt).py)&&true))) (chk (inb cA s24_n) (chk (nlt (s24_lo+(Int.toNat cA)) (List.length aA)) (chk (inb bA (List.length aA)) (chk (nlt (Int.toNat bA) (List.length aA)&&true) (k6 (IntKind.wrap .i64 (bA+(1:Int))) s24_lo s24_n cA (List.set aA (Int.toNat bA) (List.getD aA (s24_lo+(Int.toNat cA)) d_pt))))))) (k6 bA s24_lo s24_n cA aA)))))) (k4 bA aA)
noncomputable def sh6 (bA:Int) (s24_lo:Nat) (s24_n:Nat) (cA:Int) (aA:List Pt) (k5:Y5):R :=
  k5 bA s24_lo s24_n (IntKind.wrap .i64 (cA+(1:Int))) aA
noncomputable def it2 (Kb1:Kont U El) (n:Nat):Kont U El:=iter nm2 (fun st' K'=>exec X (cdp [1,1,0,1,0,0] bd) (.seq none .d (.seq (some nm3) (.block (.seq none .d (.cond (.seq none .d (.seq (some nm4) (.seq none .d (.block (.loop nm5 (.seq none .d (.seq (some nm6) .d .d))))) .d)) .d))) .d)) st' K' (Eblk 0 (cutK nm1 Kb1) (fun _ _=>none)) RR) n
noncomputable def it5 (Kb1 Kb3 Kb4:Kont U El) (n:Nat):Kont U El:=iter nm5 (fun st' K'=>exec X (cdp [1,1,0,1,0,0,1,0,0,1,0,1,0,1,0,0] bd) (.seq none .d (.seq (some nm6) .d .d)) st' K' (Eblk 2 (cutK nm4 Kb4) (Eblk 1 (cutK nm3 Kb3) (Eblk 0 (cutK nm1 Kb1) (fun _ _=>none)))) RR) n
noncomputable def ct1:Kont U El:=fun st=>exec X (cdp [1,1,1] bd) .d st RR (fun _ _=>none) RR
noncomputable def ct3 (Kb1 Kb2:Kont U El):Kont U El:=fun st=>exec X (cdp [1,1,0,1,0,0,1,1] bd) .d st (cutK nm2 Kb2) (Eblk 0 (cutK nm1 Kb1) (fun _ _=>none)) RR
noncomputable def ct4 (Kb1 Kb3:Kont U El):Kont U El:=fun st=>exec X (cdp [1,1,0,1,0,0,1,0,0,1,0,1,1] bd) .d st (cutK nm3 Kb3) (Eblk 1 (cutK nm3 Kb3) (Eblk 0 (cutK nm1 Kb1) (fun _ _=>none))) RR
noncomputable def ct6 (Kb1 Kb3 Kb4 Kb5:Kont U El):Kont U El:=fun st=>exec X (cdp [1,1,0,1,0,0,1,0,0,1,0,1,0,1,0,0,1,1] bd) .d st (cutK nm5 Kb5) (Eblk 2 (cutK nm4 Kb4) (Eblk 1 (cutK nm3 Kb3) (Eblk 0 (cutK nm1 Kb1) (fun _ _=>none)))) RR
theorem P0 (l):exec X (cdp [] bd) (.seq none .d (.seq none .d (.seq (some nm1) (.seq none .d (.block (.loop nm2 (.seq none .d (.seq (some nm3) (.block (.seq none .d (.cond (.seq none .d (.seq (some nm4) (.seq none .d (.block (.loop nm5 (.seq none .d (.seq (some nm6) .d .d))))) .d)) .d))) .d))))) .d))) (fr0 l) RR (fun _ _=>none) RR=sh0 l (fun y0 y1=>(hid (it2 (hid ct1) 100000)) (fr2 y0 y1)):=by kernel_rfl
theorem P1 (aA):ct1 (fr1 aA)=sh1 aA:=by kernel_rfl
theorem P2 (bA aA) (Kb1 Kb2:Kont U El):exec X (cdp [1,1,0,1,0,0] bd) (.seq none .d (.seq (some nm3) (.block (.seq none .d (.cond (.seq none .d (.seq (some nm4) (.seq none .d (.block (.loop nm5 (.seq none .d (.seq (some nm6) .d .d))))) .d)) .d))) .d)) (fr2 bA aA) (cutK nm2 Kb2) (Eblk 0 (cutK nm1 Kb1) (fun _ _=>none)) RR=sh2 bA aA (fun y0=>Kb1 (fr1 y0)) (fun y0 y1=>(hid (ct3 Kb1 Kb2)) (fr3 y0 y1)) (fun y0 y1 y2 y3 y4=>(hid (it5 Kb1 (hid (ct3 Kb1 Kb2)) (hid (ct4 Kb1 (hid (ct3 Kb1 Kb2)))) 100000)) (fr5 y0 y1 y2 y3 y4)):=by kernel_rfl
theorem P3 (bA aA) (Kb1 Kb2:Kont U El):ct3 Kb1 Kb2 (fr3 bA aA)=sh3 bA aA (fun y0 y1=>Kb2 (fr2 y0 y1)):=by kernel_rfl
theorem P4 (bA aA) (Kb1 Kb3:Kont U El):ct4 Kb1 Kb3 (fr4 bA aA)=sh4 bA aA:=by kernel_rfl
theorem P5 (bA s24_lo s24_n cA aA) (Kb1 Kb3 Kb4 Kb5:Kont U El):exec X (cdp [1,1,0,1,0,0,1,0,0,1,0,1,0,1,0,0] bd) (.seq none .d (.seq (some nm6) .d .d)) (fr5 bA s24_lo s24_n cA aA) (cutK nm5 Kb5) (Eblk 2 (cutK nm4 Kb4) (Eblk 1 (cutK nm3 Kb3) (Eblk 0 (cutK nm1 Kb1) (fun _ _=>none)))) RR=sh5 bA s24_lo s24_n cA aA (fun y0 y1=>Kb4 (fr4 y0 y1)) (fun y0 y1 y2 y3 y4=>(hid (ct6 Kb1 Kb3 Kb4 Kb5)) (fr6 y0 y1 y2 y3 y4)):=by kernel_rfl
theorem P6 (bA s24_lo s24_n cA aA) (Kb1 Kb3 Kb4 Kb5:Kont U El):ct6 Kb1 Kb3 Kb4 Kb5 (fr6 bA s24_lo s24_n cA aA)=sh6 bA s24_lo s24_n cA aA (fun y0 y1 y2 y3 y4=>Kb5 (fr5 y0 y1 y2 y3 y4)):=by kernel_rfl
noncomputable def f1 (aA:List Pt):R:=sh1 aA
noncomputable def f3 (k2:Y2) (bA:Int) (aA:List Pt):R:=sh3 bA aA k2
noncomputable def f4 (k2:Y2) (bA:Int) (aA:List Pt):R:=sh4 bA aA
noncomputable def f6 (k2:Y2) (k5:Y5) (bA:Int) (s24_lo:Nat) (s24_n:Nat) (cA:Int) (aA:List Pt):R:=sh6 bA s24_lo s24_n cA aA k5
noncomputable def f5 (k2:Y2):Nat→Y5
  | 0=>fun _ _ _ _ _=>none
  | n+1=>fun bA s24_lo s24_n cA aA=>sh5 bA s24_lo s24_n cA aA (f4 k2) (f6 k2 (f5 k2 n))
noncomputable def f2:Nat→Y2
  | 0=>fun _ _=>none
  | n+1=>fun bA aA=>sh2 bA aA f1 (f3 (f2 n)) (f5 (f2 n) 100000)
noncomputable def f0 (l:List Pt):R:=sh0 l (f2 100000)
theorem T1 (aA):(hid ct1) (fr1 aA)=f1 aA:=by
  refine (congrFun (hid_eq _) _).trans <| (P1 aA).trans ?_
  show _=sh1 aA
  rfl
theorem T3 (KL2:Kont U El) (k2:Y2) (h2:∀ bA aA,KL2 (fr2 bA aA)=k2 bA aA) (bA aA):(hid (ct3 (hid ct1) KL2)) (fr3 bA aA)=f3 k2 bA aA:=by
  refine (congrFun (hid_eq _) _).trans <| (P3 bA aA (hid ct1) KL2).trans ?_
  show _=sh3 bA aA k2
  simp only [h2]
theorem T4 (KL2:Kont U El) (k2:Y2) (h2:∀ bA aA,KL2 (fr2 bA aA)=k2 bA aA) (bA aA):(hid (ct4 (hid ct1) (hid (ct3 (hid ct1) KL2)))) (fr4 bA aA)=f4 k2 bA aA:=by
  refine (congrFun (hid_eq _) _).trans <| (P4 bA aA (hid ct1) (hid (ct3 (hid ct1) KL2))).trans ?_
  show _=sh4 bA aA
  rfl
theorem T6 (KL2:Kont U El) (KL5:Kont U El) (k2:Y2) (k5:Y5) (h2:∀ bA aA,KL2 (fr2 bA aA)=k2 bA aA) (h5:∀ bA s24_lo s24_n cA aA,KL5 (fr5 bA s24_lo s24_n cA aA)=k5 bA s24_lo s24_n cA aA) (bA s24_lo s24_n cA aA):(hid (ct6 (hid ct1) (hid (ct3 (hid ct1) KL2)) (hid (ct4 (hid ct1) (hid (ct3 (hid ct1) KL2)))) KL5)) (fr6 bA s24_lo s24_n cA aA)=f6 k2 k5 bA s24_lo s24_n cA aA:=by
  refine (congrFun (hid_eq _) _).trans <| (P6 bA s24_lo s24_n cA aA (hid ct1) (hid (ct3 (hid ct1) KL2)) (hid (ct4 (hid ct1) (hid (ct3 (hid ct1) KL2)))) KL5).trans ?_
  show _=sh6 bA s24_lo s24_n cA aA k5
  simp only [h5]
theorem T5 (KL2:Kont U El) (k2:Y2) (h2:∀ bA aA,KL2 (fr2 bA aA)=k2 bA aA):∀ (n:Nat),∀ bA s24_lo s24_n cA aA,it5 (hid ct1) (hid (ct3 (hid ct1) KL2)) (hid (ct4 (hid ct1) (hid (ct3 (hid ct1) KL2)))) n (fr5 bA s24_lo s24_n cA aA)=f5 k2 n bA s24_lo s24_n cA aA:=by
  intro n
  induction n with
  | zero=>intros; rfl
  | succ n ih =>
    intro bA s24_lo s24_n cA aA
    refine (P5 bA s24_lo s24_n cA aA (hid ct1) (hid (ct3 (hid ct1) KL2)) (hid (ct4 (hid ct1) (hid (ct3 (hid ct1) KL2)))) (it5 (hid ct1) (hid (ct3 (hid ct1) KL2)) (hid (ct4 (hid ct1) (hid (ct3 (hid ct1) KL2)))) n)).trans ?_
    show _=sh5 bA s24_lo s24_n cA aA (f4 k2) (f6 k2 (f5 k2 n))
    simp only [T4 KL2 k2 h2,T6 KL2 (it5 (hid ct1) (hid (ct3 (hid ct1) KL2)) (hid (ct4 (hid ct1) (hid (ct3 (hid ct1) KL2)))) n) k2 (f5 k2 n) h2 ih]
theorem H5 (KL2:Kont U El) (k2:Y2) (h2:∀ bA aA,KL2 (fr2 bA aA)=k2 bA aA) (bA s24_lo s24_n cA aA):hid (it5 (hid ct1) (hid (ct3 (hid ct1) KL2)) (hid (ct4 (hid ct1) (hid (ct3 (hid ct1) KL2)))) 100000) (fr5 bA s24_lo s24_n cA aA)=f5 k2 100000 bA s24_lo s24_n cA aA:=(congrFun (hid_eq _) _).trans (T5 KL2 k2 h2 100000 bA s24_lo s24_n cA aA)
theorem T2:∀ (n:Nat),∀ bA aA,it2 (hid ct1) n (fr2 bA aA)=f2 n bA aA:=by
  intro n
  induction n with
  | zero=>intros; rfl
  | succ n ih =>
    intro bA aA
    refine (P2 bA aA (hid ct1) (it2 (hid ct1) n)).trans ?_
    show _=sh2 bA aA f1 (f3 (f2 n)) (f5 (f2 n) 100000)
    simp only [T1,T3 (it2 (hid ct1) n) (f2 n) ih,H5 (it2 (hid ct1) n) (f2 n) ih]
theorem H2 (bA aA):hid (it2 (hid ct1) 100000) (fr2 bA aA)=f2 100000 bA aA:=(congrFun (hid_eq _) _).trans (T2 100000 bA aA)
theorem T0 (l):exec X bd (.seq none .d (.seq none .d (.seq (some nm1) (.seq none .d (.block (.loop nm2 (.seq none .d (.seq (some nm3) (.block (.seq none .d (.cond (.seq none .d (.seq (some nm4) (.seq none .d (.block (.loop nm5 (.seq none .d (.seq (some nm6) .d .d))))) .d)) .d))) .d))))) .d))) (fr0 l) RR (fun _ _=>none) RR=f0 l:=by
  refine (P0 l).trans ?_
  show _=sh0 l (f2 100000)
  simp only [H2]
theorem run (l):runM X bd (.seq none .d (.seq none .d (.seq (some nm1) (.seq none .d (.block (.loop nm2 (.seq none .d (.seq (some nm3) (.block (.seq none .d (.cond (.seq none .d (.seq (some nm4) (.seq none .d (.block (.loop nm5 (.seq none .d (.seq (some nm6) .d .d))))) .d)) .d))) .d))))) .d))) nmR [2] [(1000000000,(.rows .pt l))] [(.ful 1000000000)]=f0 l:=T0 l
noncomputable def outZ (z:List Pt):R:=some (.ful 2,[(2,.rows .pt z)])
theorem fin (K:Int→List Pt→R) (hr:List Pt) (k:Nat) (h0:0 < k) (h1:k < hr.length) (h2:hr.length≤1000000):f4 K (k:Int) hr=outZ (hr.take k):=by
  have hlen:(List.take k hr++(List.replicate (hr.length - k) d_pt++List.drop (k+(hr.length - k)) hr)).length=hr.length:=by simp; omega
  show sh4 (k:Int) hr=_
  unfold sh4
  simp only [toNat_nat,show Int.toNat (Int.ofNat hr.length)=hr.length from rfl,hlen,Nat.sub_zero]
  rw [ileT (show (0:Int)≤(k:Int) by omega),ileT (show (k:Int)≤Int.ofNat hr.length by simp; omega),ileT (Int.le_refl (Int.ofNat hr.length)),nltT (show 0 < hr.length - k by omega),nleT (show k+(hr.length - k)≤hr.length by omega),ileT (Int.le_refl 0),nltT h0]
  have:List.take k (List.take k hr++(List.replicate (hr.length - k) d_pt++List.drop (k+(hr.length - k)) hr))=List.take k hr:=by
    rw [List.take_append_of_le_length (by simp; omega),List.take_take,Nat.min_self]
  exact congrArg outZ this
theorem inner (K : Int → List Pt → R) (lo cnt : Nat) (hlo : 0 < lo) : ∀ (n m k : Nat) (hr : List Pt), cnt < n + m → 1 ≤ m → m ≤ cnt → lo + cnt = hr.length → 0 < k → k + 1 ≤ lo + m → hr.length ≤ 1000000 →
    f5 K n (k:Int) lo cnt (m:Int) hr=outZ (hr.take k++compA (hr.getD (lo+m - 1) d_pt) (hr.drop (lo+m))):=by
  intro n
  induction n with
  | zero=>intro m k hr h1 _ h2; omega
  | succ n ih =>
    intro m k hr h1 h2 h3 h4 h5 h6 h7
    show sh5 (k:Int) lo cnt (m:Int) hr (f4 K) (f6 K (f5 K n))=_
    unfold sh5
    by_cases hm:m=cnt
    · rw [iltF (show ¬ (m : Int) < Int.ofNat cnt by simp; omega)]
      show f4 K (k:Int) hr=_
      rw [fin K hr k h5 (by omega) h7,List.drop_eq_nil_of_le (by omega)]
      exact congrArg outZ (List.append_nil _).symm
    · have hi : lo + m < hr.length := by omega
      have hp:lo+(m - 1) < hr.length:=by omega
      have hk:k < hr.length:=by omega
      rw [iltT (show (m:Int) < Int.ofNat cnt by simp; omega),wrapP m h2 (by omega)]
      simp only [toNat_nat]
      rw [inbT (show m < cnt by omega),nltT hi,inbT (show m - 1 < cnt by omega),nltT hp,inbT hk,nltT hk]
      rw [show lo+m - 1=lo+(m - 1) by omega,getD_lt hi,getD_lt hp,drop_lt hi]
      show condB (!(eqP hr[lo+m] hr[lo+(m - 1)])) _ _=_
      unfold compA
      cases he:eqP hr[lo+m] hr[lo+(m - 1)]
      · show f5 K n (IntKind.wrap .i64 ((k : Int) + 1)) lo cnt (IntKind.wrap .i64 ((m : Int) + 1)) (List.set hr k hr[lo + m]) = _
        rw [wrapS k (by omega),wrapS m (by omega),ih (m+1) (k+1) (List.set hr k hr[lo+m]) (by omega) (by omega) (by omega) (by simp; omega) (by omega) (by omega) (by simpa using h7)]
        have e1:List.take (k+1) (List.set hr k hr[lo+m])=List.take k hr++[hr[lo+m]]:=by
          rw [List.take_add_one,List.take_set_of_le (Nat.le_refl k),List.getElem?_set_self hk]
          rfl
        have e2:(List.set hr k hr[lo+m]).getD (lo+(m+1) - 1) d_pt=hr[lo+m]:=by
          rw [show lo+(m+1) - 1=lo+m by omega,getD_lt (by simpa using hi),List.getElem_set_ne (by omega)]
        have e3:List.drop (lo+(m+1)) (List.set hr k hr[lo+m])=List.drop (lo+m+1) hr:=by
          rw [List.drop_set_of_lt (by omega)]
          rfl
        rw [e1,e2,e3,List.append_assoc]
        rfl
      · show f5 K n (k : Int) lo cnt (IntKind.wrap .i64 ((m : Int) + 1)) hr = _
        rw [wrapS m (by omega),ih (m+1) k hr (by omega) (by omega) (by omega) h4 h5 (by omega) h7]
        rw [show lo+(m+1) - 1=lo+m by omega,getD_lt hi,eqP_iff.1 he]
        rfl
theorem outer : ∀ (n k : Nat) (hr : List Pt), hr.length < n + k → 1 ≤ k → k ≤ hr.length → hr.length ≤ 4000 →
    f2 n (k:Int) hr=outZ (hr.take k++compA (hr.getD (k - 1) d_pt) (hr.drop k)):=by
  intro n
  induction n with
  | zero=>intro k hr h1 _ h2; omega
  | succ n ih =>
    intro k hr h1 h2 h3 h4
    show sh2 (k:Int) hr f1 (f3 (f2 n)) (f5 (f2 n) 100000)=_
    unfold sh2
    by_cases hk:k=hr.length
    · rw [iltF (show ¬ (k : Int) < Int.ofNat hr.length by simp; omega), List.drop_eq_nil_of_le (by omega), List.take_of_length_le (by omega)]
      exact congrArg outZ (List.append_nil _).symm
    · have hkl : k < hr.length := by omega
      have hp:k - 1 < hr.length:=by omega
      rw [iltT (show (k:Int) < Int.ofNat hr.length by simp; omega),wrapP k h2 (by omega)]
      simp only [toNat_nat]
      rw [inbT hkl,nltT hkl,inbT hp,nltT hp,getD_lt hkl,getD_lt hp,drop_lt hkl]
      show condB (eqP hr[k] hr[k - 1]) _ _=_
      unfold compA
      cases he:eqP hr[k] hr[k - 1]
      · show f2 n (IntKind.wrap .i64 ((k : Int) + 1)) hr = _
        rw [wrapS k (by omega),ih (k+1) hr (by omega) (by omega) (by omega) h4,show k+1 - 1=k by omega,getD_lt hkl,List.take_add_one,List.getElem?_eq_getElem hkl,List.append_assoc]
        rfl
      · show chk (ile 0 (k : Int) && ile (k : Int) (Int.ofNat hr.length) && ile (Int.ofNat hr.length) (Int.ofNat hr.length)) (f5 (f2 n) 100000 (k : Int) k (hr.length - k) (1 : Int) hr) = _
        rw [ileT (show (0:Int)≤(k:Int) by omega),ileT (show (k:Int)≤Int.ofNat hr.length by simp; omega),ileT (Int.le_refl (Int.ofNat hr.length))]
        show f5 (f2 n) 100000 (k:Int) k (hr.length - k) ((1:Nat):Int) hr=_
        rw [inner (f2 n) k (hr.length - k) (by omega) 100000 1 k hr (by omega) (by omega) (by omega) (by omega) (by omega) (by omega) (by omega)]
        rw [show k+1 - 1=k by omega,getD_lt hkl,eqP_iff.1 he]
        rfl
theorem f0_eq (l:List Pt) (h:nle (List.length l) 4000=true):f0 l=outZ (compactL l):=by
  have hl:l.length≤4000:=of_decide_eq_true h
  show sh0 l (f2 100000)=_
  unfold sh0
  match l,hl with
  | [],_=>rfl
  | [x],_=>rfl
  | x :: y :: l, hl =>
    rw [iltF (show ¬ Int.ofNat (x :: y :: l).length < 2 by simp; omega)]
    show f2 100000 ((1:Nat):Int) (x :: y :: l)=_
    rw [outer 100000 1 (x :: y :: l) (by simp only [List.length_cons] at hl ⊢; omega) (Nat.le_refl _) (by simp) hl]
    rfl
theorem ok:CtxOk Try.prog X:=ctxOk tab spN dpN
theorem okM:MOk Try.prog X:=fun g sp h=>by cases h
theorem spec (l:List Pt) (h:(nle (List.length l) 4000)=true):MCall Try.prog E 55 [(.ful 1000000000)] [(1000000000,(.rows .pt l))] (.ful 2) [(2,(.rows .pt (compactL l)))] :=
  runM_sound ok okM Try.func55 (by kernel_rfl) (by kernel_rfl) (by kernel_rfl) (by show 1≤61; decide) ((run l).trans (f0_eq l h))
noncomputable def sp:MSp U El:=fun args hs k=>match args,hs with
  | [.ful q0],[(q1,.rows .pt l)]=>chk (Nat.beq q0 1000000000&&(Nat.beq q1 1000000000&&true)) (chk (nle (List.length l) 4000) (k (.ful 2) [(2,(.rows .pt (compactL l)))]))
  | _,_=>none
theorem spOk:MSpOk Try.prog E 55 sp:=⟨Try.call55,fun args hs k r h=>by
  unfold sp at h
  split at h
  · obtain ⟨hq, hA⟩ := chk_some h
    clear h
    simp only [Bool.and_eq_true] at hq
    obtain ⟨e0,e1,_⟩:=hq
    cases Nat.eq_of_beq_eq_true e0
    cases Nat.eq_of_beq_eq_true e1
    obtain ⟨h1,hB⟩:=chk_some hA
    exact ⟨_,_,spec _ h1,hB⟩
  · cases h⟩
theorem spDet:∀ args hs,∃ oo:Option (AV U El×Heap U El),∀ k,sp args hs k=oo.bind fun p=>k p.1 p.2:=fun args hs=>by
  unfold sp
  split
  · exact det_chkM (det_chkM ⟨some (_,_),fun _=>rfl⟩)
  · exact ⟨none,fun _=>rfl⟩
end compactP
theorem compA_asc : ∀ (l : List Pt) (p : Pt), (p :: l).Pairwise leP → (p :: compA p l).Pairwise ltP ∧ (∀ x, x ∈ p :: compA p l ↔ x ∈ p :: l) := by
  intro l
  induction l with
  | nil=>intro p _; exact ⟨by simp [compA],fun x=>Iff.rfl⟩
  | cons y l ih =>
    intro p h
    obtain ⟨h1,h2⟩:=List.pairwise_cons.1 h
    unfold compA
    by_cases e:y=p
    · subst e
      obtain ⟨i1,i2⟩:=ih y h2
      rw [eqP_iff.2 rfl,cond_true]
      refine ⟨i1,fun x=>(i2 x).trans ?_⟩
      simp
    · obtain ⟨i1, i2⟩ := ih y h2
      rw [show eqP y p=false from Bool.eq_false_iff.2 fun k=>e (eqP_iff.1 k),cond_false]
      have hpy:ltP p y:=by
        rcases h1 y (by simp) with k | k
        · exact absurd k.symm e
        · exact k
      refine ⟨List.pairwise_cons.2 ⟨fun x hx => ?_,i1⟩,fun x => ?_⟩
      · rcases List.mem_cons.1 hx with rfl | hx
        · exact hpy
        · exact ltP_trans hpy ((List.pairwise_cons.1 i1).1 x hx)
      · rw [List.mem_cons,i2 x,List.mem_cons (a:=x) (b:=p)]
theorem sortP_perm (l:List Pt):(sortP l).Perm l:=List.mergeSort_perm l _
theorem sortP_asc (l:List Pt):(sortP l).Pairwise leP:=by
  have:=List.pairwise_mergeSort (le:=fun x y:Pt => !ltB y x) (fun a b c h1 h2=>by
    simp only [Bool.not_eq_true'] at *
    exact ltB_false.2 (leP_trans (ltB_false.1 h1) (ltB_false.1 h2))) (fun a b=>by
    simp only [Bool.or_eq_true,Bool.not_eq_true']
    rcases ltP_total a b with h | h
    · exact .inl (ltB_false.2 h)
    · exact .inr (ltB_false.2 (.inr h))) l
  exact this.imp fun h=>ltB_false.1 (by simpa using h)
noncomputable def ascL (l:List Pt):List Pt:=compactL (sortP l)
theorem ascL_asc (l:List Pt):(ascL l).Pairwise ltP:=by
  unfold ascL
  have h:=sortP_asc l
  cases hs:sortP l with
  | nil=>simp [compactL]
  | cons p s=>rw [hs] at h; exact (compA_asc s p h).1
theorem ascL_mem (l:List Pt) (x:Pt):x∈ascL l↔x∈l:=by
  rw [← (sortP_perm l).mem_iff]
  unfold ascL
  have h:=sortP_asc l
  cases hs:sortP l with
  | nil=>simp [compactL]
  | cons p s=>rw [hs] at h; exact (compA_asc s p h).2 x
theorem compA_le:∀ (l:List Pt) (p:Pt),(compA p l).length≤l.length:=by
  intro l
  induction l with
  | nil=>intro p; exact Nat.le_refl _
  | cons y l ih =>
    intro p
    unfold compA
    cases eqP y p
    · have:=ih y; simp only [cond_false,List.length_cons]; omega
    · have:=ih p; simp only [cond_true,List.length_cons]; omega
theorem ascL_le (l:List Pt):(ascL l).length≤l.length:=by
  rw [← (sortP_perm l).length_eq]
  unfold ascL
  cases sortP l with
  | nil=>exact Nat.le_refl _
  | cons p s=>have:=compA_le s p; simp only [compactL,List.length_cons]; omega
theorem allB_sub {l m:List Pt} (h:allB l=true) (hs:∀ x∈m,x∈l):allB m=true:=allB_iff.2 fun x hx=>allB_iff.1 h x (hs x hx)
end Go.Proofs.Ytcabnkclelgoeaa
