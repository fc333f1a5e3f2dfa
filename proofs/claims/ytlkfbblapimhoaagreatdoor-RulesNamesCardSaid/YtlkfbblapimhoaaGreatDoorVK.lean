/- Links, compacted. -/
import Derived.Test.YtlkfbblapimhoaaGreatDoorVD
import Derived.Test.YtlkfbblapimhoaaGreatDoorSJ
namespace Go.Proofs.YtlkfbblapimhoaaGreatDoor
set_option linter.unusedSectionVars false
set_option linter.unusedSimpArgs false
set_option linter.unusedVariables false
set_option maxRecDepth 100000
noncomputable def compAS:List UInt8→List (List UInt8)→List (List UInt8)
  | _,[]=>[]
  | p,x :: l=>bif x == p then compAS p l else x :: compAS x l
noncomputable def compactS:List (List UInt8)→List (List UInt8)
  | []=>[]
  | x :: l=>x :: compAS x l
theorem eqSt {x y:List UInt8} (h:(x == y)=true):x=y:=by simpa using h
namespace compactSt
noncomputable def bd:Code:=(Tryz.f66.body).getD .skip
noncomputable def X:Ctx U El:=⟨E,tds,zeros,eqs,specOf [],100000,61,dspecOf [],fun _=>none⟩
noncomputable def nmR:Norm U:=⟨[(2,.str)],[2],[2],[],[],[],[]⟩
noncomputable def RR:Kont U El:=fun st=>normK nmR st (retM [2])
noncomputable def nm1:Norm U:=⟨[],[0],[1000000000],[],[],[],[]⟩
noncomputable def nm2:Norm U:=⟨[],[0,3],[1000000000],[],[],[],[]⟩
noncomputable def nm3:Norm U:=⟨[],[0,3],[1000000000],[],[],[],[]⟩
noncomputable def nm4:Norm U:=⟨[],[0,3],[1000000000],[],[],[],[]⟩
noncomputable def nm5:Norm U:=⟨[],[0,3,4,5],[1000000000],[],[],[],[]⟩
noncomputable def nm6:Norm U:=⟨[],[0,3,4,5],[1000000000],[],[],[],[]⟩
abbrev Y1:=(List (List UInt8))→R
abbrev Y2:=Int→(List (List UInt8))→R
abbrev Y3:=Int→(List (List UInt8))→R
abbrev Y4:=Int→(List (List UInt8))→R
abbrev Y5:=Int→Nat→Nat→Int→(List (List UInt8))→R
abbrev Y6:=Int→Nat→Nat→Int→(List (List UInt8))→R
noncomputable def fr0 (l:List (List UInt8)):St U El:=⟨[(0,(.ful 1000000000))],[(1000000000,(.rows .str l))]⟩
noncomputable def fr1 (aA:List (List UInt8)):St U El:=⟨[(0,(.ful 1000000000))],[(1000000000,(.rows .str aA))]⟩
noncomputable def fr2 (bA:Int) (aA:List (List UInt8)):St U El:=⟨[(0,(.ful 1000000000)),(3,(.int .i64 bA))],[(1000000000,(.rows .str aA))]⟩
noncomputable def fr3 (bA:Int) (aA:List (List UInt8)):St U El:=⟨[(0,(.ful 1000000000)),(3,(.int .i64 bA))],[(1000000000,(.rows .str aA))]⟩
noncomputable def fr4 (bA:Int) (aA:List (List UInt8)):St U El:=⟨[(0,(.ful 1000000000)),(3,(.int .i64 bA))],[(1000000000,(.rows .str aA))]⟩
noncomputable def fr5 (bA:Int) (s24_lo:Nat) (s24_n:Nat) (dA:Int) (aA:List (List UInt8)):St U El:=⟨[(0,(.ful 1000000000)),(3,(.int .i64 bA)),(4,(.own 1000000000 s24_lo s24_n)),(5,(.int .i64 dA))],[(1000000000,(.rows .str aA))]⟩
noncomputable def fr6 (bA:Int) (s24_lo:Nat) (s24_n:Nat) (dA:Int) (aA:List (List UInt8)):St U El:=⟨[(0,(.ful 1000000000)),(3,(.int .i64 bA)),(4,(.own 1000000000 s24_lo s24_n)),(5,(.int .i64 dA))],[(1000000000,(.rows .str aA))]⟩
noncomputable def sh0 (l:List (List UInt8)) (k2:Y2):R :=
  condB (ilt (Int.ofNat (List.length l)) (2:Int)) (some ((.ful 2),[(2,.rows .str l)])) (k2 (1:Int) l)
noncomputable def sh1 (aA:List (List UInt8)):R :=
  some ((.ful 2),[(2,.rows .str aA)])
noncomputable def sh2 (bA:Int) (aA:List (List UInt8)) (k1:Y1) (k3:Y3) (k5:Y5):R :=
  condB (ilt bA (Int.ofNat (List.length aA))) (chk (inb bA (List.length aA)) (chk (nlt (Int.toNat bA) (List.length aA)) (chk (inb (IntKind.wrap .i64 (bA - (1:Int))) (List.length aA)) (chk (nlt (Int.toNat (IntKind.wrap .i64 (bA - (1:Int)))) (List.length aA)) (condB ((List.getD aA (Int.toNat bA) d_str) == (List.getD aA (Int.toNat (IntKind.wrap .i64 (bA - (1:Int)))) d_str)) (chk (ile 0 bA&&ile bA (Int.ofNat (List.length aA))&&ile (Int.ofNat (List.length aA)) (Int.ofNat (List.length aA))) (k5 bA (Int.toNat bA) (Int.toNat (Int.ofNat (List.length aA)) - (Int.toNat bA)) (1:Int) aA)) (k3 bA aA)))))) (k1 aA)
noncomputable def sh3 (bA:Int) (aA:List (List UInt8)) (k2:Y2):R :=
  k2 (IntKind.wrap .i64 (bA+(1:Int))) aA
noncomputable def sh4 (bA:Int) (aA:List (List UInt8)):R :=
  chk (ile 0 bA&&ile bA (Int.ofNat (List.length aA))&&ile (Int.ofNat (List.length aA)) (Int.ofNat (List.length aA))) (chk (true&&(nlt 0 (Int.toNat (Int.ofNat (List.length aA)) - (Int.toNat bA))&&nle ((Int.toNat bA)+(Int.toNat (Int.ofNat (List.length aA)) - (Int.toNat bA))) (List.length aA))) (chk (ile 0 (0:Int)&&ile (0:Int) bA&&ile bA (Int.ofNat (List.length (List.take (Int.toNat bA) aA++(List.replicate (Int.toNat (Int.ofNat (List.length aA)) - (Int.toNat bA)) d_str++List.drop ((Int.toNat bA)+(Int.toNat (Int.ofNat (List.length aA)) - (Int.toNat bA))) aA))))) (chk (true&&nlt 0 (Int.toNat bA - 0)) (some ((.ful 2),[(2,.rows .str (List.take (Int.toNat bA - 0) (List.take (Int.toNat bA) aA++(List.replicate (Int.toNat (Int.ofNat (List.length aA)) - (Int.toNat bA)) d_str++List.drop ((Int.toNat bA)+(Int.toNat (Int.ofNat (List.length aA)) - (Int.toNat bA))) aA))))])))))
noncomputable def sh5 (bA:Int) (s24_lo:Nat) (s24_n:Nat) (dA:Int) (aA:List (List UInt8)) (k4:Y4) (k6:Y6):R :=
  condB (ilt dA (Int.ofNat s24_n)) (chk (inb dA s24_n) (chk (nlt (s24_lo+(Int.toNat dA)) (List.length aA)) (chk (inb (IntKind.wrap .i64 (dA - (1:Int))) s24_n) (chk (nlt (s24_lo+(Int.toNat (IntKind.wrap .i64 (dA - (1:Int))))) (List.length aA)) (condB (!((List.getD aA (s24_lo+(Int.toNat dA)) d_str) == (List.getD aA (s24_lo+(Int.toNat (IntKind.wrap .i64 (dA - (1:Int))))) d_str))) (chk (inb dA s24_n) (chk (nlt (s24_lo+(Int.toNat dA)) (List.length aA)) (chk (inb bA (List.length aA)) (chk (nlt (Int.toNat bA) (List.length aA)&&true) (k6 (IntKind.wrap .i64 (bA+(1:Int))) s24_lo s24_n dA (List.set aA (Int.toNat bA) (List.getD aA (s24_lo+(Int.toNat dA)) d_str))))))) (k6 bA s24_lo s24_n dA aA)))))) (k4 bA aA)
noncomputable def sh6 (bA:Int) (s24_lo:Nat) (s24_n:Nat) (dA:Int) (aA:List (List UInt8)) (k5:Y5):R :=
  k5 bA s24_lo s24_n (IntKind.wrap .i64 (dA+(1:Int))) aA
noncomputable def it2 (Kb1:Kont U El) (n:Nat):Kont U El:=iter nm2 (fun st' K'=>exec X (cdp [1,1,0,1,0,0] bd) (.seq none .d (.seq (some nm3) (.block (.seq none .d (.cond (.seq none .d (.seq (some nm4) (.seq none .d (.block (.loop nm5 (.seq none .d (.seq (some nm6) .d .d))))) .d)) .d))) .d)) st' K' (Eblk 0 (cutK nm1 Kb1) (fun _ _=>none)) RR) n
noncomputable def it5 (Kb1 Kb3 Kb4:Kont U El) (n:Nat):Kont U El:=iter nm5 (fun st' K'=>exec X (cdp [1,1,0,1,0,0,1,0,0,1,0,1,0,1,0,0] bd) (.seq none .d (.seq (some nm6) .d .d)) st' K' (Eblk 2 (cutK nm4 Kb4) (Eblk 1 (cutK nm3 Kb3) (Eblk 0 (cutK nm1 Kb1) (fun _ _=>none)))) RR) n
noncomputable def ct1:Kont U El:=fun st=>exec X (cdp [1,1,1] bd) .d st RR (fun _ _=>none) RR
noncomputable def ct3 (Kb1 Kb2:Kont U El):Kont U El:=fun st=>exec X (cdp [1,1,0,1,0,0,1,1] bd) .d st (cutK nm2 Kb2) (Eblk 0 (cutK nm1 Kb1) (fun _ _=>none)) RR
noncomputable def ct4 (Kb1 Kb3:Kont U El):Kont U El:=fun st=>exec X (cdp [1,1,0,1,0,0,1,0,0,1,0,1,1] bd) .d st (cutK nm3 Kb3) (Eblk 1 (cutK nm3 Kb3) (Eblk 0 (cutK nm1 Kb1) (fun _ _=>none))) RR
noncomputable def ct6 (Kb1 Kb3 Kb4 Kb5:Kont U El):Kont U El:=fun st=>exec X (cdp [1,1,0,1,0,0,1,0,0,1,0,1,0,1,0,0,1,1] bd) .d st (cutK nm5 Kb5) (Eblk 2 (cutK nm4 Kb4) (Eblk 1 (cutK nm3 Kb3) (Eblk 0 (cutK nm1 Kb1) (fun _ _=>none)))) RR
theorem P0 (l):exec X (cdp [] bd) (.seq none .d (.seq none .d (.seq (some nm1) (.seq none .d (.block (.loop nm2 (.seq none .d (.seq (some nm3) (.block (.seq none .d (.cond (.seq none .d (.seq (some nm4) (.seq none .d (.block (.loop nm5 (.seq none .d (.seq (some nm6) .d .d))))) .d)) .d))) .d))))) .d))) (fr0 l) RR (fun _ _=>none) RR=sh0 l (fun y0 y1=>(hid (it2 (hid ct1) 100000)) (fr2 y0 y1)):=by kernel_rfl
theorem P1 (aA):ct1 (fr1 aA)=sh1 aA:=by kernel_rfl
theorem P2 (bA aA) (Kb1 Kb2:Kont U El):exec X (cdp [1,1,0,1,0,0] bd) (.seq none .d (.seq (some nm3) (.block (.seq none .d (.cond (.seq none .d (.seq (some nm4) (.seq none .d (.block (.loop nm5 (.seq none .d (.seq (some nm6) .d .d))))) .d)) .d))) .d)) (fr2 bA aA) (cutK nm2 Kb2) (Eblk 0 (cutK nm1 Kb1) (fun _ _=>none)) RR=sh2 bA aA (fun y0=>Kb1 (fr1 y0)) (fun y0 y1=>(hid (ct3 Kb1 Kb2)) (fr3 y0 y1)) (fun y0 y1 y2 y3 y4=>(hid (it5 Kb1 (hid (ct3 Kb1 Kb2)) (hid (ct4 Kb1 (hid (ct3 Kb1 Kb2)))) 100000)) (fr5 y0 y1 y2 y3 y4)):=by kernel_rfl
theorem P3 (bA aA) (Kb1 Kb2:Kont U El):ct3 Kb1 Kb2 (fr3 bA aA)=sh3 bA aA (fun y0 y1=>Kb2 (fr2 y0 y1)):=by kernel_rfl
theorem P4 (bA aA) (Kb1 Kb3:Kont U El):ct4 Kb1 Kb3 (fr4 bA aA)=sh4 bA aA:=by kernel_rfl
theorem P5 (bA s24_lo s24_n dA aA) (Kb1 Kb3 Kb4 Kb5:Kont U El):exec X (cdp [1,1,0,1,0,0,1,0,0,1,0,1,0,1,0,0] bd) (.seq none .d (.seq (some nm6) .d .d)) (fr5 bA s24_lo s24_n dA aA) (cutK nm5 Kb5) (Eblk 2 (cutK nm4 Kb4) (Eblk 1 (cutK nm3 Kb3) (Eblk 0 (cutK nm1 Kb1) (fun _ _=>none)))) RR=sh5 bA s24_lo s24_n dA aA (fun y0 y1=>Kb4 (fr4 y0 y1)) (fun y0 y1 y2 y3 y4=>(hid (ct6 Kb1 Kb3 Kb4 Kb5)) (fr6 y0 y1 y2 y3 y4)):=by kernel_rfl
theorem P6 (bA s24_lo s24_n dA aA) (Kb1 Kb3 Kb4 Kb5:Kont U El):ct6 Kb1 Kb3 Kb4 Kb5 (fr6 bA s24_lo s24_n dA aA)=sh6 bA s24_lo s24_n dA aA (fun y0 y1 y2 y3 y4=>Kb5 (fr5 y0 y1 y2 y3 y4)):=by kernel_rfl
noncomputable def f1 (aA:List (List UInt8)):R:=sh1 aA
noncomputable def f3 (k2:Y2) (bA:Int) (aA:List (List UInt8)):R:=sh3 bA aA k2
noncomputable def f4 (k2:Y2) (bA:Int) (aA:List (List UInt8)):R:=sh4 bA aA
noncomputable def f6 (k2:Y2) (k5:Y5) (bA:Int) (s24_lo:Nat) (s24_n:Nat) (dA:Int) (aA:List (List UInt8)):R:=sh6 bA s24_lo s24_n dA aA k5
noncomputable def f5 (k2:Y2):Nat→Y5
  | 0=>fun _ _ _ _ _=>none
  | n+1=>fun bA s24_lo s24_n dA aA=>sh5 bA s24_lo s24_n dA aA (f4 k2) (f6 k2 (f5 k2 n))
noncomputable def f2:Nat→Y2
  | 0=>fun _ _=>none
  | n+1=>fun bA aA=>sh2 bA aA f1 (f3 (f2 n)) (f5 (f2 n) 100000)
noncomputable def f0 (l:List (List UInt8)):R:=sh0 l (f2 100000)
theorem T1 (aA):(hid ct1) (fr1 aA)=f1 aA:=by
  refine (congrFun (hid_eq _) _).trans <| (P1 aA).trans ?_
  show _=sh1 aA
  rfl
theorem T3 (KL2:Kont U El) (k2:Y2) (h2:∀ bA aA,KL2 (fr2 bA aA)=k2 bA aA) (bA aA):(hid (ct3 (hid ct1) KL2)) (fr3 bA aA)=f3 k2 bA aA:=by
  refine (congrFun (hid_eq _) _).trans <| (P3 bA aA (hid ct1) KL2).trans ?_
  show _=sh3 bA aA k2
  simp only [h2]
theorem T4 (KL2:Kont U El) (k2:Y2) (h2:∀ bA aA,KL2 (fr2 bA aA)=k2 bA aA) (bA aA):(hid (ct4 (hid ct1) (hid (ct3 (hid ct1) KL2)))) (fr4 bA aA)=f4 k2 bA aA:=by
  refine (congrFun (hid_eq _) _).trans <| (P4 bA aA (hid ct1) (hid (ct3 (hid ct1) KL2))).trans ?_
  show _=sh4 bA aA
  rfl
theorem T6 (KL2:Kont U El) (KL5:Kont U El) (k2:Y2) (k5:Y5) (h2:∀ bA aA,KL2 (fr2 bA aA)=k2 bA aA) (h5:∀ bA s24_lo s24_n dA aA,KL5 (fr5 bA s24_lo s24_n dA aA)=k5 bA s24_lo s24_n dA aA) (bA s24_lo s24_n dA aA):(hid (ct6 (hid ct1) (hid (ct3 (hid ct1) KL2)) (hid (ct4 (hid ct1) (hid (ct3 (hid ct1) KL2)))) KL5)) (fr6 bA s24_lo s24_n dA aA)=f6 k2 k5 bA s24_lo s24_n dA aA:=by
  refine (congrFun (hid_eq _) _).trans <| (P6 bA s24_lo s24_n dA aA (hid ct1) (hid (ct3 (hid ct1) KL2)) (hid (ct4 (hid ct1) (hid (ct3 (hid ct1) KL2)))) KL5).trans ?_
  show _=sh6 bA s24_lo s24_n dA aA k5
  simp only [h5]
theorem T5 (KL2:Kont U El) (k2:Y2) (h2:∀ bA aA,KL2 (fr2 bA aA)=k2 bA aA):∀ (n:Nat),∀ bA s24_lo s24_n dA aA,it5 (hid ct1) (hid (ct3 (hid ct1) KL2)) (hid (ct4 (hid ct1) (hid (ct3 (hid ct1) KL2)))) n (fr5 bA s24_lo s24_n dA aA)=f5 k2 n bA s24_lo s24_n dA aA:=by
  intro n
  induction n with
  | zero=>intros; rfl
  | succ n ih =>
    intro bA s24_lo s24_n dA aA
    refine (P5 bA s24_lo s24_n dA aA (hid ct1) (hid (ct3 (hid ct1) KL2)) (hid (ct4 (hid ct1) (hid (ct3 (hid ct1) KL2)))) (it5 (hid ct1) (hid (ct3 (hid ct1) KL2)) (hid (ct4 (hid ct1) (hid (ct3 (hid ct1) KL2)))) n)).trans ?_
    show _=sh5 bA s24_lo s24_n dA aA (f4 k2) (f6 k2 (f5 k2 n))
    simp only [T4 KL2 k2 h2,T6 KL2 (it5 (hid ct1) (hid (ct3 (hid ct1) KL2)) (hid (ct4 (hid ct1) (hid (ct3 (hid ct1) KL2)))) n) k2 (f5 k2 n) h2 ih]
theorem H5 (KL2:Kont U El) (k2:Y2) (h2:∀ bA aA,KL2 (fr2 bA aA)=k2 bA aA) (bA s24_lo s24_n dA aA):hid (it5 (hid ct1) (hid (ct3 (hid ct1) KL2)) (hid (ct4 (hid ct1) (hid (ct3 (hid ct1) KL2)))) 100000) (fr5 bA s24_lo s24_n dA aA)=f5 k2 100000 bA s24_lo s24_n dA aA:=(congrFun (hid_eq _) _).trans (T5 KL2 k2 h2 100000 bA s24_lo s24_n dA aA)
theorem T2:∀ (n:Nat),∀ bA aA,it2 (hid ct1) n (fr2 bA aA)=f2 n bA aA:=by
  intro n
  induction n with
  | zero=>intros; rfl
  | succ n ih =>
    intro bA aA
    refine (P2 bA aA (hid ct1) (it2 (hid ct1) n)).trans ?_
    show _=sh2 bA aA f1 (f3 (f2 n)) (f5 (f2 n) 100000)
    simp only [T1,T3 (it2 (hid ct1) n) (f2 n) ih,H5 (it2 (hid ct1) n) (f2 n) ih]
theorem H2 (bA aA):hid (it2 (hid ct1) 100000) (fr2 bA aA)=f2 100000 bA aA:=(congrFun (hid_eq _) _).trans (T2 100000 bA aA)
theorem T0 (l):exec X bd (.seq none .d (.seq none .d (.seq (some nm1) (.seq none .d (.block (.loop nm2 (.seq none .d (.seq (some nm3) (.block (.seq none .d (.cond (.seq none .d (.seq (some nm4) (.seq none .d (.block (.loop nm5 (.seq none .d (.seq (some nm6) .d .d))))) .d)) .d))) .d))))) .d))) (fr0 l) RR (fun _ _=>none) RR=f0 l:=by
  refine (P0 l).trans ?_
  show _=sh0 l (f2 100000)
  simp only [H2]
theorem run (l):runM X bd (.seq none .d (.seq none .d (.seq (some nm1) (.seq none .d (.block (.loop nm2 (.seq none .d (.seq (some nm3) (.block (.seq none .d (.cond (.seq none .d (.seq (some nm4) (.seq none .d (.block (.loop nm5 (.seq none .d (.seq (some nm6) .d .d))))) .d)) .d))) .d))))) .d))) nmR [2] [(1000000000,(.rows .str l))] [(.ful 1000000000)]=f0 l:=T0 l
noncomputable def outZ (z:List (List UInt8)):R:=some (.ful 2,[(2,.rows .str z)])
theorem fin (K:Int→List (List UInt8)→R) (hr:List (List UInt8)) (k:Nat) (h0:0 < k) (h1:k < hr.length) (h2:hr.length≤1000000):f4 K (k:Int) hr=outZ (hr.take k):=by
  have hlen:(List.take k hr++(List.replicate (hr.length - k) d_str++List.drop (k+(hr.length - k)) hr)).length=hr.length:=by simp; omega
  show sh4 (k:Int) hr=_
  unfold sh4
  simp only [toNat_nat,show Int.toNat (Int.ofNat hr.length)=hr.length from rfl,hlen,Nat.sub_zero]
  rw [ileT (show (0:Int)≤(k:Int) by omega),ileT (show (k:Int)≤Int.ofNat hr.length by simp; omega),ileT (Int.le_refl (Int.ofNat hr.length)),nltT (show 0 < hr.length - k by omega),nleT (show k+(hr.length - k)≤hr.length by omega),ileT (Int.le_refl 0),nltT h0]
  have:List.take k (List.take k hr++(List.replicate (hr.length - k) d_str++List.drop (k+(hr.length - k)) hr))=List.take k hr:=by
    rw [List.take_append_of_le_length (by simp; omega),List.take_take,Nat.min_self]
  exact congrArg outZ this
theorem inner (K : Int → List (List UInt8) → R) (lo cnt : Nat) (hlo : 0 < lo) : ∀ (n m k : Nat) (hr : List (List UInt8)), cnt < n + m → 1 ≤ m → m ≤ cnt → lo + cnt = hr.length → 0 < k → k + 1 ≤ lo + m → hr.length ≤ 1000000 →
    f5 K n (k:Int) lo cnt (m:Int) hr=outZ (hr.take k++compAS (hr.getD (lo+m - 1) d_str) (hr.drop (lo+m))):=by
  intro n
  induction n with
  | zero=>intro m k hr h1 _ h2; omega
  | succ n ih =>
    intro m k hr h1 h2 h3 h4 h5 h6 h7
    show sh5 (k:Int) lo cnt (m:Int) hr (f4 K) (f6 K (f5 K n))=_
    unfold sh5
    by_cases hm:m=cnt
    · rw [iltF (show ¬ (m : Int) < Int.ofNat cnt by simp; omega)]
      show f4 K (k:Int) hr=_
      rw [fin K hr k h5 (by omega) h7,List.drop_eq_nil_of_le (by omega)]
      exact congrArg outZ (List.append_nil _).symm
    · have hi : lo + m < hr.length := by omega
      have hp:lo+(m - 1) < hr.length:=by omega
      have hk:k < hr.length:=by omega
      rw [iltT (show (m:Int) < Int.ofNat cnt by simp; omega),wrapP m h2 (by omega)]
      simp only [toNat_nat]
      rw [inbT (show m < cnt by omega),nltT hi,inbT (show m - 1 < cnt by omega),nltT hp,inbT hk,nltT hk]
      rw [show lo+m - 1=lo+(m - 1) by omega,getD_lt hi,getD_lt hp,drop_lt hi]
      show condB (!((hr[lo+m] == hr[lo+(m - 1)]))) _ _=_
      unfold compAS
      cases he:(hr[lo+m] == hr[lo+(m - 1)])
      · show f5 K n (IntKind.wrap .i64 ((k : Int) + 1)) lo cnt (IntKind.wrap .i64 ((m : Int) + 1)) (List.set hr k hr[lo + m]) = _
        rw [wrapS k (by omega),wrapS m (by omega),ih (m+1) (k+1) (List.set hr k hr[lo+m]) (by omega) (by omega) (by omega) (by simp; omega) (by omega) (by omega) (by simpa using h7)]
        have e1:List.take (k+1) (List.set hr k hr[lo+m])=List.take k hr++[hr[lo+m]]:=by
          rw [List.take_add_one,List.take_set_of_le (Nat.le_refl k),List.getElem?_set_self hk]
          rfl
        have e2:(List.set hr k hr[lo+m]).getD (lo+(m+1) - 1) d_str=hr[lo+m]:=by
          rw [show lo+(m+1) - 1=lo+m by omega,getD_lt (by simpa using hi),List.getElem_set_ne (by omega)]
        have e3:List.drop (lo+(m+1)) (List.set hr k hr[lo+m])=List.drop (lo+m+1) hr:=by
          rw [List.drop_set_of_lt (by omega)]
          rfl
        rw [e1,e2,e3,List.append_assoc]
        rfl
      · show f5 K n (k : Int) lo cnt (IntKind.wrap .i64 ((m : Int) + 1)) hr = _
        rw [wrapS m (by omega),ih (m+1) k hr (by omega) (by omega) (by omega) h4 h5 (by omega) h7]
        rw [show lo+(m+1) - 1=lo+m by omega,getD_lt hi,eqSt he]
        rfl
theorem outer : ∀ (n k : Nat) (hr : List (List UInt8)), hr.length < n + k → 1 ≤ k → k ≤ hr.length → hr.length ≤ 4000 →
    f2 n (k:Int) hr=outZ (hr.take k++compAS (hr.getD (k - 1) d_str) (hr.drop k)):=by
  intro n
  induction n with
  | zero=>intro k hr h1 _ h2; omega
  | succ n ih =>
    intro k hr h1 h2 h3 h4
    show sh2 (k:Int) hr f1 (f3 (f2 n)) (f5 (f2 n) 100000)=_
    unfold sh2
    by_cases hk:k=hr.length
    · rw [iltF (show ¬ (k : Int) < Int.ofNat hr.length by simp; omega), List.drop_eq_nil_of_le (by omega), List.take_of_length_le (by omega)]
      exact congrArg outZ (List.append_nil _).symm
    · have hkl : k < hr.length := by omega
      have hp:k - 1 < hr.length:=by omega
      rw [iltT (show (k:Int) < Int.ofNat hr.length by simp; omega),wrapP k h2 (by omega)]
      simp only [toNat_nat]
      rw [inbT hkl,nltT hkl,inbT hp,nltT hp,getD_lt hkl,getD_lt hp,drop_lt hkl]
      show condB ((hr[k] == hr[k - 1])) _ _=_
      unfold compAS
      cases he:(hr[k] == hr[k - 1])
      · show f2 n (IntKind.wrap .i64 ((k : Int) + 1)) hr = _
        rw [wrapS k (by omega),ih (k+1) hr (by omega) (by omega) (by omega) h4,show k+1 - 1=k by omega,getD_lt hkl,List.take_add_one,List.getElem?_eq_getElem hkl,List.append_assoc]
        rfl
      · show chk (ile 0 (k : Int) && ile (k : Int) (Int.ofNat hr.length) && ile (Int.ofNat hr.length) (Int.ofNat hr.length)) (f5 (f2 n) 100000 (k : Int) k (hr.length - k) (1 : Int) hr) = _
        rw [ileT (show (0:Int)≤(k:Int) by omega),ileT (show (k:Int)≤Int.ofNat hr.length by simp; omega),ileT (Int.le_refl (Int.ofNat hr.length))]
        show f5 (f2 n) 100000 (k:Int) k (hr.length - k) ((1:Nat):Int) hr=_
        rw [inner (f2 n) k (hr.length - k) (by omega) 100000 1 k hr (by omega) (by omega) (by omega) (by omega) (by omega) (by omega) (by omega)]
        rw [show k+1 - 1=k by omega,getD_lt hkl,eqSt he]
        rfl
theorem f0_eq (l:List (List UInt8)) (h:nle (List.length l) 4000=true):f0 l=outZ (compactS l):=by
  have hl:l.length≤4000:=of_decide_eq_true h
  show sh0 l (f2 100000)=_
  unfold sh0
  match l,hl with
  | [],_=>rfl
  | [x],_=>rfl
  | x :: y :: l, hl =>
    rw [iltF (show ¬ Int.ofNat (x :: y :: l).length < 2 by simp; omega)]
    show f2 100000 ((1:Nat):Int) (x :: y :: l)=_
    rw [outer 100000 1 (x :: y :: l) (by simp only [List.length_cons] at hl ⊢; omega) (Nat.le_refl _) (by simp) hl]
    rfl
theorem ok:CtxOk Tryz.prog X:=ctxOk tab spN dpN
theorem okM:MOk Tryz.prog X:=fun g sp h=>by cases h
theorem spec (l:List (List UInt8)) (h:(nle (List.length l) 4000)=true):MCall Tryz.prog E 66 [(.ful 1000000000)] [(1000000000,(.rows .str l))] (.ful 2) [(2,(.rows .str (compactS l)))] :=
  runM_sound ok okM Tryz.func66 (by kernel_rfl) (by kernel_rfl) (by kernel_rfl) (by show 1≤61; decide) ((run l).trans (f0_eq l h))
noncomputable def sp:MSp U El:=fun args hs k=>match args,hs with
  | [.ful q0],[(q1,.rows .str l)]=>chk (Nat.beq q0 1000000000&&(Nat.beq q1 1000000000&&true)) (chk (nle (List.length l) 4000) (k (.ful 2) [(2,(.rows .str (compactS l)))]))
  | _,_=>none
theorem spOk:MSpOk Tryz.prog E 66 sp:=⟨Tryz.call66,fun args hs k r h=>by
  unfold sp at h
  split at h
  · obtain ⟨hq, hA⟩ := chk_some h
    clear h
    simp only [Bool.and_eq_true] at hq
    obtain ⟨e0,e1,_⟩:=hq
    cases Nat.eq_of_beq_eq_true e0
    cases Nat.eq_of_beq_eq_true e1
    obtain ⟨h1,hB⟩:=chk_some hA
    exact ⟨_,_,spec _ h1,hB⟩
  · cases h⟩
theorem spDet:∀ args hs,∃ oo:Option (AV U El×Heap U El),∀ k,sp args hs k=oo.bind fun p=>k p.1 p.2:=fun args hs=>by
  unfold sp
  split
  · exact det_chkM (det_chkM ⟨some (_,_),fun _=>rfl⟩)
  · exact ⟨none,fun _=>rfl⟩
end compactSt
theorem mem_compAS (s:List UInt8):∀ (l:List (List UInt8)) (p:List UInt8),s∈p :: compAS p l↔s∈p :: l:=by
  intro l
  induction l with
  | nil=>intro p; simp [compAS]
  | cons x l ih =>
    intro p
    unfold compAS
    cases h:x == p with
    | true =>
      have e:x=p:=by simpa using h
      subst e
      rw [cond_true,ih x]
      simp
    | false =>
      rw [cond_false,List.mem_cons,ih x,List.mem_cons (a:=s) (b:=p)]
theorem mem_compactS (s:List UInt8) (l:List (List UInt8)):s∈compactS l↔s∈l:=by
  cases l with
  | nil=>rfl
  | cons x l=>exact mem_compAS s l x
theorem len_compAS:∀ (l:List (List UInt8)) (p:List UInt8),(compAS p l).length≤l.length:=by
  intro l
  induction l with
  | nil=>intro p; simp [compAS]
  | cons x l ih =>
    intro p
    unfold compAS
    cases x == p with
    | true=>have:=ih p; simp only [cond_true,List.length_cons]; omega
    | false=>have:=ih x; simp only [cond_false,List.length_cons]; omega
theorem len_compactS (l:List (List UInt8)):(compactS l).length≤l.length:=by
  cases l with
  | nil=>exact Nat.le_refl _
  | cons x l=>have:=len_compAS l x; simp only [compactS,List.length_cons]; omega
theorem sortS_mem (s:List UInt8) (l:List (List UInt8)):s∈sortS l↔s∈l:=(List.mergeSort_perm l _).mem_iff
theorem sortS_length (l:List (List UInt8)):(sortS l).length=l.length:=List.length_mergeSort _
noncomputable def linksL (l:List Rule):List (List UInt8):=bif rulesB l then compactS (sortS (l.map Rule.rl)) else []
noncomputable def outLk (l:List (List UInt8)) (e:Int):R:=some (.tup [.ful 0,.int .i64 e],[(0,.rows .str l)])
namespace ulinks
noncomputable def bd:Code:=(Tryz.f22.body).getD .skip
noncomputable def X:Ctx U El:=⟨E,tds,zeros,eqs,specOf [(13,valid.sp)],100000,26,dspecOf [],mspecOf [(65,sortSSp),(66,(mcSp compactSt.sp))]⟩
noncomputable def nmR:Norm U:=⟨[(2,.str)],[2,3],[2],[],[],[],[]⟩
noncomputable def RR:Kont U El:=fun st=>normK nmR st (retFin [2,3] [2])
noncomputable def nm1:Norm U:=⟨[(4,.str)],[4],[4],[],[],[],[]⟩
noncomputable def nm2:Norm U:=⟨[(4,.str)],[4,10,11,12],[4],[],[],[],[]⟩
abbrev Y1:=(List (List UInt8))→R
abbrev Y2:=(List (List UInt8))→(List Rule)→Int→Int→R
noncomputable def fr0 (l:List Rule):St U El:=⟨[(0,(.lst .rule l))],[]⟩
noncomputable def fr1 (cA:List (List UInt8)):St U El:=⟨[(4,(.ful 4))],[(4,(.rows .str cA))]⟩
noncomputable def fr2 (cA:List (List UInt8)) (fA:List Rule) (gA:Int) (eA:Int):St U El:=⟨[(4,(.ful 4)),(10,(.lst .rule fA)),(11,(.int .i64 gA)),(12,(.int .i64 eA))],[(4,(.rows .str cA))]⟩
noncomputable def sh0 (l:List Rule) (k2:Y2):R :=
  condB (!(rulesB l)) (some ((.tup [(.ful 0),(.int .i64 (1:Int))]),[(0,.rows .str ([]:List (List UInt8)))])) (k2 ([]:List (List UInt8)) l (Int.ofNat (List.length l)) (0:Int))
noncomputable def sh1 (cA:List (List UInt8)):R :=
  chk (nle (List.length cA) 100000) (chk (nle (List.length (sortS cA)) 4000) (some ((.tup [(.ful 0),(.int .i64 (0:Int))]),[(0,.rows .str (compactS (sortS cA)))])))
noncomputable def sh2 (cA:List (List UInt8)) (fA:List Rule) (gA:Int) (eA:Int) (k1:Y1) (k2:Y2):R :=
  condB (ilt eA gA) (chk (inb eA (List.length fA)) (chk (nle ((List.length cA+List.length ([(List.getD fA (Int.toNat eA) d_rule).rl]:List (List UInt8))) * 16) 140737488355328&&nle (List.length cA+List.length ([(List.getD fA (Int.toNat eA) d_rule).rl]:List (List UInt8))) 9223372036854775807) (k2 (cA++([(List.getD fA (Int.toNat eA) d_rule).rl]:List (List UInt8))) fA gA (IntKind.wrap .i64 (eA+(1:Int)))))) (k1 cA)
noncomputable def it2 (Kb1:Kont U El) (n:Nat):Kont U El:=iter nm2 (fun st' K'=>exec X (cdp [1,1,1,0,1,0,0] bd) .d st' K' (Eblk 0 (cutK nm1 Kb1) (fun _ _=>none)) RR) n
noncomputable def ct1:Kont U El:=fun st=>exec X (cdp [1,1,1,1] bd) .d st RR (fun _ _=>none) RR
theorem P0 (l):exec X (cdp [] bd) (.seq none .d (.seq none .d (.seq none .d (.seq (some nm1) (.seq none .d (.block (.loop nm2 .d))) .d)))) (fr0 l) RR (fun _ _=>none) RR=sh0 l (fun y0 y1 y2 y3=>(hid (it2 (hid ct1) 100000)) (fr2 y0 y1 y2 y3)):=by kernel_rfl
theorem P1 (cA):ct1 (fr1 cA)=sh1 cA:=by kernel_rfl
theorem P2 (cA fA gA eA) (Kb1 Kb2:Kont U El):exec X (cdp [1,1,1,0,1,0,0] bd) .d (fr2 cA fA gA eA) (cutK nm2 Kb2) (Eblk 0 (cutK nm1 Kb1) (fun _ _=>none)) RR=sh2 cA fA gA eA (fun y0=>Kb1 (fr1 y0)) (fun y0 y1 y2 y3=>Kb2 (fr2 y0 y1 y2 y3)):=by kernel_rfl
noncomputable def f1 (cA:List (List UInt8)):R:=sh1 cA
noncomputable def f2:Nat→Y2
  | 0=>fun _ _ _ _=>none
  | n+1=>fun cA fA gA eA=>sh2 cA fA gA eA f1 (f2 n)
noncomputable def f0 (l:List Rule):R:=sh0 l (f2 100000)
theorem T1 (cA):(hid ct1) (fr1 cA)=f1 cA:=by
  refine (congrFun (hid_eq _) _).trans <| (P1 cA).trans ?_
  show _=sh1 cA
  rfl
theorem T2:∀ (n:Nat),∀ cA fA gA eA,it2 (hid ct1) n (fr2 cA fA gA eA)=f2 n cA fA gA eA:=by
  intro n
  induction n with
  | zero=>intros; rfl
  | succ n ih =>
    intro cA fA gA eA
    refine (P2 cA fA gA eA (hid ct1) (it2 (hid ct1) n)).trans ?_
    show _=sh2 cA fA gA eA f1 (f2 n)
    simp only [T1,ih]
theorem H2 (cA fA gA eA):hid (it2 (hid ct1) 100000) (fr2 cA fA gA eA)=f2 100000 cA fA gA eA:=(congrFun (hid_eq _) _).trans (T2 100000 cA fA gA eA)
theorem T0 (l):exec X bd (.seq none .d (.seq none .d (.seq none .d (.seq (some nm1) (.seq none .d (.block (.loop nm2 .d))) .d)))) (fr0 l) RR (fun _ _=>none) RR=f0 l:=by
  refine (P0 l).trans ?_
  show _=sh0 l (f2 100000)
  simp only [H2]
theorem run (l):runFn X bd (.seq none .d (.seq none .d (.seq none .d (.seq (some nm1) (.seq none .d (.block (.loop nm2 .d))) .d)))) nmR [2,3] [2] [(.lst .rule l)]=f0 l:=T0 l
theorem loop (l:List Rule) (hl:l.length≤60):∀ (n i:Nat) (out:List (List UInt8)),l.length < n+i→i≤l.length→out.length=i→f2 n out l (Int.ofNat l.length) (i:Int)=f1 (out++(l.drop i).map Rule.rl):=by
  intro n
  induction n with
  | zero=>intro i out h1 h2; omega
  | succ n ih =>
    intro i out h1 h2 h3
    show sh2 out l (Int.ofNat l.length) (i:Int) f1 (f2 n)=_
    unfold sh2
    by_cases hi:i < l.length
    · rw [iltT (by simp; omega), inbT hi, toNat_nat, getD_lt hi, nleT (show _ ≤ 140737488355328 by simp; omega), nleT (show _ ≤ 9223372036854775807 by simp; omega), wrapS i (by omega), ih (i + 1) _ (by omega) hi (by simp; omega), drop_lt hi, List.map_cons, List.append_assoc]
      rfl
    · have : i = l.length := by omega
      subst this
      rw [iltF (by simp),List.drop_length,List.map_nil,List.append_nil]
      rfl
theorem f0_eq (l:List Rule):f0 l=outLk (linksL l) (bif rulesB l then 0 else 1):=by
  show sh0 l (f2 100000)=_
  unfold sh0 linksL
  cases h1:rulesB l with
  | false=>rfl
  | true =>
    obtain ⟨g1,g2⟩:=rulesB_len h1
    show f2 100000 [] l (Int.ofNat l.length) ((0:Nat):Int)=_
    rw [loop l g1 100000 0 [] (by omega) (by omega) rfl,List.drop_zero,List.nil_append]
    show sh1 (l.map Rule.rl)=_
    unfold sh1
    rw [nleT (show (l.map Rule.rl).length≤100000 by simp; omega),nleT (show (sortS (l.map Rule.rl)).length≤4000 by rw [sortS_length]; simp; omega)]
    rfl
theorem ok:CtxOk Tryz.prog X:=ctxOk tab (spC valid.spOk spN) dpN
theorem okM:MOk Tryz.prog X:=mspecOf_ok _ (mpC (sortSOk rfl ok) (mpC (mcSp_ok ok compactSt.spOk) mpN))
theorem spec (l:List Rule):CallSpec Tryz.prog E 22 [(.lst .rule l)] (.tup [(.ful 0),(.int .i64 ((bif rulesB l then 0 else 1)))]) [(0,.rows .str (linksL l))] :=
  runFn_sound ok okM Tryz.call22 Tryz.func22 (by kernel_rfl) (by kernel_rfl) (by kernel_rfl) (by show 1≤26; decide) (by decide) (by rfl) ((run l).trans (f0_eq l))
noncomputable def sp:Sp U El:=fun args k=>match args with
  | [.lst .rule l]=>k (.tup [(.ful 0),(.int .i64 ((bif rulesB l then 0 else 1)))]) [(0,.rows .str (linksL l))]
  | _=>none
theorem spOk:SpOk Tryz.prog E 22 sp where
  det:=fun vs=>by
    unfold sp
    split
    · exact ⟨some (_,_),fun _=>rfl⟩
    · exact ⟨none,fun _=>rfl⟩
  ok:=fun vs k r h=>by
    unfold sp at h
    split at h
    · exact ⟨_,_,spec _,h⟩
    · cases h
end ulinks
end Go.Proofs.YtlkfbblapimhoaaGreatDoor
