import Derived.Test.YthdimnlkcgchoaaGreatSI
namespace Go.Proofs.YthdimnlkcgchoaaGreat
set_option linter.all false
set_option maxRecDepth 100000
theorem eqZ {x y:Int} (h:(x == y)=true):x=y:=by simpa using h
noncomputable def compA:Int→List Int→List Int
 | _,[]=>[]
 | p,x :: l=>bif x == p then compA p l else x :: compA x l
noncomputable def compactL:List Int→List Int
 | []=>[]
 | x :: l=>x :: compA x l
namespace compactI
noncomputable def bd:Code:=(Tryz.f142.body).getD .skip
noncomputable def X:Ctx U El:=⟨E,tds,zeros,eqs,specOf [],100000,61,dspecOf [],fun _=>none,fun _=>none⟩
noncomputable def nmR:Norm U:=⟨[(2,.int)],[2],[2],[],[],[],[]⟩
noncomputable def RR:Kont U El:=fun st=>normK nmR st (retM [2])
noncomputable def nm1:Norm U:=⟨[],[0],[1000000000],[],[],[],[]⟩
noncomputable def nm2:Norm U:=⟨[],[0,3],[1000000000],[],[],[],[]⟩
noncomputable def nm3:Norm U:=⟨[],[0,3],[1000000000],[],[],[],[]⟩
noncomputable def nm4:Norm U:=⟨[],[0,3],[1000000000],[],[],[],[]⟩
noncomputable def nm5:Norm U:=⟨[],[0,3,4,5],[1000000000],[],[],[],[]⟩
noncomputable def nm6:Norm U:=⟨[],[0,3,4,5],[1000000000],[],[],[],[]⟩
abbrev Y1:=(List Int)→R
abbrev Y2:=Int→(List Int)→R
abbrev Y3:=Int→(List Int)→R
abbrev Y4:=Int→(List Int)→R
abbrev Y5:=Int→Nat→Nat→Int→(List Int)→R
abbrev Y6:=Int→Nat→Nat→Int→(List Int)→R
noncomputable def fr0 (l:List Int):St U El:=⟨[(0,(.ful 1000000000))],[(1000000000,(.rows .int l))]⟩
noncomputable def fr1 (tA:List Int):St U El:=⟨[(0,(.ful 1000000000))],[(1000000000,(.rows .int tA))]⟩
noncomputable def fr2 (uA:Int) (tA:List Int):St U El:=⟨[(0,(.ful 1000000000)),(3,(.int .i64 uA))],[(1000000000,(.rows .int tA))]⟩
noncomputable def fr3 (uA:Int) (tA:List Int):St U El:=⟨[(0,(.ful 1000000000)),(3,(.int .i64 uA))],[(1000000000,(.rows .int tA))]⟩
noncomputable def fr4 (uA:Int) (tA:List Int):St U El:=⟨[(0,(.ful 1000000000)),(3,(.int .i64 uA))],[(1000000000,(.rows .int tA))]⟩
noncomputable def fr5 (uA:Int) (s24_lo:Nat) (s24_n:Nat) (dB:Int) (tA:List Int):St U El:=⟨[(0,(.ful 1000000000)),(3,(.int .i64 uA)),(4,(.own 1000000000 s24_lo s24_n)),(5,(.int .i64 dB))],[(1000000000,(.rows .int tA))]⟩
noncomputable def fr6 (uA:Int) (s24_lo:Nat) (s24_n:Nat) (dB:Int) (tA:List Int):St U El:=⟨[(0,(.ful 1000000000)),(3,(.int .i64 uA)),(4,(.own 1000000000 s24_lo s24_n)),(5,(.int .i64 dB))],[(1000000000,(.rows .int tA))]⟩
noncomputable def sh0 (l:List Int) (k2:Y2):R :=
 condB (ilt (Int.ofNat (List.length l)) (2:Int)) (some ((.ful 2),[(2,.rows .int l)])) (k2 (1:Int) l)
noncomputable def sh1 (tA:List Int):R :=
 some ((.ful 2),[(2,.rows .int tA)])
noncomputable def sh2 (uA:Int) (tA:List Int) (k1:Y1) (k3:Y3) (k5:Y5):R :=
 condB (ilt uA (Int.ofNat (List.length tA))) (chk (inb uA (List.length tA)) (chk (nlt (Int.toNat uA) (List.length tA)) (chk (inb (IntKind.wrap .i64 (uA - (1:Int))) (List.length tA)) (chk (nlt (Int.toNat (IntKind.wrap .i64 (uA - (1:Int)))) (List.length tA)) (condB ((List.getD tA (Int.toNat uA) d_int) == (List.getD tA (Int.toNat (IntKind.wrap .i64 (uA - (1:Int)))) d_int)) (chk (ile 0 uA&&ile uA (Int.ofNat (List.length tA))&&ile (Int.ofNat (List.length tA)) (Int.ofNat (List.length tA))) (k5 uA (Int.toNat uA) (Int.toNat (Int.ofNat (List.length tA)) - (Int.toNat uA)) (1:Int) tA)) (k3 uA tA)))))) (k1 tA)
noncomputable def sh3 (uA:Int) (tA:List Int) (k2:Y2):R :=
 k2 (IntKind.wrap .i64 (uA+(1:Int))) tA
noncomputable def sh4 (uA:Int) (tA:List Int):R :=
 chk (ile 0 uA&&ile uA (Int.ofNat (List.length tA))&&ile (Int.ofNat (List.length tA)) (Int.ofNat (List.length tA))) (chk (true&&(nlt 0 (Int.toNat (Int.ofNat (List.length tA)) - (Int.toNat uA))&&nle ((Int.toNat uA)+(Int.toNat (Int.ofNat (List.length tA)) - (Int.toNat uA))) (List.length tA))) (chk (ile 0 (0:Int)&&ile (0:Int) uA&&ile uA (Int.ofNat (List.length (List.take (Int.toNat uA) tA++(List.replicate (Int.toNat (Int.ofNat (List.length tA)) - (Int.toNat uA)) d_int++List.drop ((Int.toNat uA)+(Int.toNat (Int.ofNat (List.length tA)) - (Int.toNat uA))) tA))))) (chk (true&&nlt 0 (Int.toNat uA - 0)) (some ((.ful 2),[(2,.rows .int (List.take (Int.toNat uA - 0) (List.take (Int.toNat uA) tA++(List.replicate (Int.toNat (Int.ofNat (List.length tA)) - (Int.toNat uA)) d_int++List.drop ((Int.toNat uA)+(Int.toNat (Int.ofNat (List.length tA)) - (Int.toNat uA))) tA))))])))))
noncomputable def sh5 (uA:Int) (s24_lo:Nat) (s24_n:Nat) (dB:Int) (tA:List Int) (k4:Y4) (k6:Y6):R :=
 condB (ilt dB (Int.ofNat s24_n)) (chk (inb dB s24_n) (chk (nlt (s24_lo+(Int.toNat dB)) (List.length tA)) (chk (inb (IntKind.wrap .i64 (dB - (1:Int))) s24_n) (chk (nlt (s24_lo+(Int.toNat (IntKind.wrap .i64 (dB - (1:Int))))) (List.length tA)) (condB ((List.getD tA (s24_lo+(Int.toNat dB)) d_int) != (List.getD tA (s24_lo+(Int.toNat (IntKind.wrap .i64 (dB - (1:Int))))) d_int)) (chk (inb dB s24_n) (chk (nlt (s24_lo+(Int.toNat dB)) (List.length tA)) (chk (inb uA (List.length tA)) (chk (nlt (Int.toNat uA) (List.length tA)&&true) (k6 (IntKind.wrap .i64 (uA+(1:Int))) s24_lo s24_n dB (List.set tA (Int.toNat uA) (List.getD tA (s24_lo+(Int.toNat dB)) d_int))))))) (k6 uA s24_lo s24_n dB tA)))))) (k4 uA tA)
noncomputable def sh6 (uA:Int) (s24_lo:Nat) (s24_n:Nat) (dB:Int) (tA:List Int) (k5:Y5):R :=
 k5 uA s24_lo s24_n (IntKind.wrap .i64 (dB+(1:Int))) tA
noncomputable def it2 (Kb1:Kont U El) (n:Nat):Kont U El:=iter nm2 (fun st' K'=>exec X (cdp [1,1,0,1,0,0] bd) (.seq none .d (.seq (some nm3) (.block (.seq none .d (.cond (.seq none .d (.seq (some nm4) (.seq none .d (.block (.loop nm5 (.seq none .d (.seq (some nm6) .d .d))))) .d)) .d))) .d)) st' K' (Eblk 0 (cutK nm1 Kb1) (fun _ _=>none)) RR) n
noncomputable def it5 (Kb1 Kb3 Kb4:Kont U El) (n:Nat):Kont U El:=iter nm5 (fun st' K'=>exec X (cdp [1,1,0,1,0,0,1,0,0,1,0,1,0,1,0,0] bd) (.seq none .d (.seq (some nm6) .d .d)) st' K' (Eblk 2 (cutK nm4 Kb4) (Eblk 1 (cutK nm3 Kb3) (Eblk 0 (cutK nm1 Kb1) (fun _ _=>none)))) RR) n
noncomputable def ct1:Kont U El:=fun st=>exec X (cdp [1,1,1] bd) .d st RR (fun _ _=>none) RR
noncomputable def ct3 (Kb1 Kb2:Kont U El):Kont U El:=fun st=>exec X (cdp [1,1,0,1,0,0,1,1] bd) .d st (cutK nm2 Kb2) (Eblk 0 (cutK nm1 Kb1) (fun _ _=>none)) RR
noncomputable def ct4 (Kb1 Kb3:Kont U El):Kont U El:=fun st=>exec X (cdp [1,1,0,1,0,0,1,0,0,1,0,1,1] bd) .d st (cutK nm3 Kb3) (Eblk 1 (cutK nm3 Kb3) (Eblk 0 (cutK nm1 Kb1) (fun _ _=>none))) RR
noncomputable def ct6 (Kb1 Kb3 Kb4 Kb5:Kont U El):Kont U El:=fun st=>exec X (cdp [1,1,0,1,0,0,1,0,0,1,0,1,0,1,0,0,1,1] bd) .d st (cutK nm5 Kb5) (Eblk 2 (cutK nm4 Kb4) (Eblk 1 (cutK nm3 Kb3) (Eblk 0 (cutK nm1 Kb1) (fun _ _=>none)))) RR
theorem P0 (l):exec X (cdp [] bd) (.seq none .d (.seq none .d (.seq (some nm1) (.seq none .d (.block (.loop nm2 (.seq none .d (.seq (some nm3) (.block (.seq none .d (.cond (.seq none .d (.seq (some nm4) (.seq none .d (.block (.loop nm5 (.seq none .d (.seq (some nm6) .d .d))))) .d)) .d))) .d))))) .d))) (fr0 l) RR (fun _ _=>none) RR=sh0 l (fun y0 y1=>(hid (it2 (hid ct1) 100000)) (fr2 y0 y1)):=by kernel_rfl
theorem P1 (tA):ct1 (fr1 tA)=sh1 tA:=by kernel_rfl
theorem P2 (uA tA) (Kb1 Kb2:Kont U El):exec X (cdp [1,1,0,1,0,0] bd) (.seq none .d (.seq (some nm3) (.block (.seq none .d (.cond (.seq none .d (.seq (some nm4) (.seq none .d (.block (.loop nm5 (.seq none .d (.seq (some nm6) .d .d))))) .d)) .d))) .d)) (fr2 uA tA) (cutK nm2 Kb2) (Eblk 0 (cutK nm1 Kb1) (fun _ _=>none)) RR=sh2 uA tA (fun y0=>Kb1 (fr1 y0)) (fun y0 y1=>(hid (ct3 Kb1 Kb2)) (fr3 y0 y1)) (fun y0 y1 y2 y3 y4=>(hid (it5 Kb1 (hid (ct3 Kb1 Kb2)) (hid (ct4 Kb1 (hid (ct3 Kb1 Kb2)))) 100000)) (fr5 y0 y1 y2 y3 y4)):=by kernel_rfl
theorem P3 (uA tA) (Kb1 Kb2:Kont U El):ct3 Kb1 Kb2 (fr3 uA tA)=sh3 uA tA (fun y0 y1=>Kb2 (fr2 y0 y1)):=by kernel_rfl
theorem P4 (uA tA) (Kb1 Kb3:Kont U El):ct4 Kb1 Kb3 (fr4 uA tA)=sh4 uA tA:=by kernel_rfl
theorem P5 (uA s24_lo s24_n dB tA) (Kb1 Kb3 Kb4 Kb5:Kont U El):exec X (cdp [1,1,0,1,0,0,1,0,0,1,0,1,0,1,0,0] bd) (.seq none .d (.seq (some nm6) .d .d)) (fr5 uA s24_lo s24_n dB tA) (cutK nm5 Kb5) (Eblk 2 (cutK nm4 Kb4) (Eblk 1 (cutK nm3 Kb3) (Eblk 0 (cutK nm1 Kb1) (fun _ _=>none)))) RR=sh5 uA s24_lo s24_n dB tA (fun y0 y1=>Kb4 (fr4 y0 y1)) (fun y0 y1 y2 y3 y4=>(hid (ct6 Kb1 Kb3 Kb4 Kb5)) (fr6 y0 y1 y2 y3 y4)):=by kernel_rfl
theorem P6 (uA s24_lo s24_n dB tA) (Kb1 Kb3 Kb4 Kb5:Kont U El):ct6 Kb1 Kb3 Kb4 Kb5 (fr6 uA s24_lo s24_n dB tA)=sh6 uA s24_lo s24_n dB tA (fun y0 y1 y2 y3 y4=>Kb5 (fr5 y0 y1 y2 y3 y4)):=by kernel_rfl
noncomputable def f1 (tA:List Int):R:=sh1 tA
noncomputable def f3 (k2:Y2) (uA:Int) (tA:List Int):R:=sh3 uA tA k2
noncomputable def f4 (k2:Y2) (uA:Int) (tA:List Int):R:=sh4 uA tA
noncomputable def f6 (k2:Y2) (k5:Y5) (uA:Int) (s24_lo:Nat) (s24_n:Nat) (dB:Int) (tA:List Int):R:=sh6 uA s24_lo s24_n dB tA k5
noncomputable def f5 (k2:Y2):Nat→Y5
 | 0=>fun _ _ _ _ _=>none
 | n+1=>fun uA s24_lo s24_n dB tA=>sh5 uA s24_lo s24_n dB tA (f4 k2) (f6 k2 (f5 k2 n))
noncomputable def f2:Nat→Y2
 | 0=>fun _ _=>none
 | n+1=>fun uA tA=>sh2 uA tA f1 (f3 (f2 n)) (f5 (f2 n) 100000)
noncomputable def f0 (l:List Int):R:=sh0 l (f2 100000)
theorem T1 (tA):(hid ct1) (fr1 tA)=f1 tA:=by
 refine (congrFun (hid_eq _) _).trans <| (P1 tA).trans ?_
 show _=sh1 tA
 rfl
theorem T3 (KL2:Kont U El) (k2:Y2) (h2:∀ uA tA,KL2 (fr2 uA tA)=k2 uA tA) (uA tA):(hid (ct3 (hid ct1) KL2)) (fr3 uA tA)=f3 k2 uA tA:=by
 refine (congrFun (hid_eq _) _).trans <| (P3 uA tA (hid ct1) KL2).trans ?_
 show _=sh3 uA tA k2
 simp only [h2]
theorem T4 (KL2:Kont U El) (k2:Y2) (h2:∀ uA tA,KL2 (fr2 uA tA)=k2 uA tA) (uA tA):(hid (ct4 (hid ct1) (hid (ct3 (hid ct1) KL2)))) (fr4 uA tA)=f4 k2 uA tA:=by
 refine (congrFun (hid_eq _) _).trans <| (P4 uA tA (hid ct1) (hid (ct3 (hid ct1) KL2))).trans ?_
 show _=sh4 uA tA
 rfl
theorem T6 (KL2:Kont U El) (KL5:Kont U El) (k2:Y2) (k5:Y5) (h2:∀ uA tA,KL2 (fr2 uA tA)=k2 uA tA) (h5:∀ uA s24_lo s24_n dB tA,KL5 (fr5 uA s24_lo s24_n dB tA)=k5 uA s24_lo s24_n dB tA) (uA s24_lo s24_n dB tA):(hid (ct6 (hid ct1) (hid (ct3 (hid ct1) KL2)) (hid (ct4 (hid ct1) (hid (ct3 (hid ct1) KL2)))) KL5)) (fr6 uA s24_lo s24_n dB tA)=f6 k2 k5 uA s24_lo s24_n dB tA:=by
 refine (congrFun (hid_eq _) _).trans <| (P6 uA s24_lo s24_n dB tA (hid ct1) (hid (ct3 (hid ct1) KL2)) (hid (ct4 (hid ct1) (hid (ct3 (hid ct1) KL2)))) KL5).trans ?_
 show _=sh6 uA s24_lo s24_n dB tA k5
 simp only [h5]
theorem T5 (KL2:Kont U El) (k2:Y2) (h2:∀ uA tA,KL2 (fr2 uA tA)=k2 uA tA):∀ (n:Nat),∀ uA s24_lo s24_n dB tA,it5 (hid ct1) (hid (ct3 (hid ct1) KL2)) (hid (ct4 (hid ct1) (hid (ct3 (hid ct1) KL2)))) n (fr5 uA s24_lo s24_n dB tA)=f5 k2 n uA s24_lo s24_n dB tA:=by
  intro n
  induction n with
  | zero=>intros; rfl
  | succ n ih =>
    intro uA s24_lo s24_n dB tA
    refine (P5 uA s24_lo s24_n dB tA (hid ct1) (hid (ct3 (hid ct1) KL2)) (hid (ct4 (hid ct1) (hid (ct3 (hid ct1) KL2)))) (it5 (hid ct1) (hid (ct3 (hid ct1) KL2)) (hid (ct4 (hid ct1) (hid (ct3 (hid ct1) KL2)))) n)).trans ?_
    show _=sh5 uA s24_lo s24_n dB tA (f4 k2) (f6 k2 (f5 k2 n))
    simp only [T4 KL2 k2 h2,T6 KL2 (it5 (hid ct1) (hid (ct3 (hid ct1) KL2)) (hid (ct4 (hid ct1) (hid (ct3 (hid ct1) KL2)))) n) k2 (f5 k2 n) h2 ih]
theorem H5 (KL2:Kont U El) (k2:Y2) (h2:∀ uA tA,KL2 (fr2 uA tA)=k2 uA tA) (uA s24_lo s24_n dB tA):hid (it5 (hid ct1) (hid (ct3 (hid ct1) KL2)) (hid (ct4 (hid ct1) (hid (ct3 (hid ct1) KL2)))) 100000) (fr5 uA s24_lo s24_n dB tA)=f5 k2 100000 uA s24_lo s24_n dB tA:=(congrFun (hid_eq _) _).trans (T5 KL2 k2 h2 100000 uA s24_lo s24_n dB tA)
theorem T2:∀ (n:Nat),∀ uA tA,it2 (hid ct1) n (fr2 uA tA)=f2 n uA tA:=by
  intro n
  induction n with
  | zero=>intros; rfl
  | succ n ih =>
    intro uA tA
    refine (P2 uA tA (hid ct1) (it2 (hid ct1) n)).trans ?_
    show _=sh2 uA tA f1 (f3 (f2 n)) (f5 (f2 n) 100000)
    simp only [T1,T3 (it2 (hid ct1) n) (f2 n) ih,H5 (it2 (hid ct1) n) (f2 n) ih]
theorem H2 (uA tA):hid (it2 (hid ct1) 100000) (fr2 uA tA)=f2 100000 uA tA:=(congrFun (hid_eq _) _).trans (T2 100000 uA tA)
theorem T0 (l):exec X bd (.seq none .d (.seq none .d (.seq (some nm1) (.seq none .d (.block (.loop nm2 (.seq none .d (.seq (some nm3) (.block (.seq none .d (.cond (.seq none .d (.seq (some nm4) (.seq none .d (.block (.loop nm5 (.seq none .d (.seq (some nm6) .d .d))))) .d)) .d))) .d))))) .d))) (fr0 l) RR (fun _ _=>none) RR=f0 l:=by
 refine (P0 l).trans ?_
 show _=sh0 l (f2 100000)
 simp only [H2]
theorem run (l):runM X bd (.seq none .d (.seq none .d (.seq (some nm1) (.seq none .d (.block (.loop nm2 (.seq none .d (.seq (some nm3) (.block (.seq none .d (.cond (.seq none .d (.seq (some nm4) (.seq none .d (.block (.loop nm5 (.seq none .d (.seq (some nm6) .d .d))))) .d)) .d))) .d))))) .d))) nmR [2] [(1000000000,(.rows .int l))] [(.ful 1000000000)]=f0 l:=T0 l
noncomputable def outZ (z:List Int):R:=some (.ful 2,[(2,.rows .int z)])
theorem fin (K:Int→List Int→R) (hr:List Int) (k:Nat) (h0:0 < k) (h1:k < hr.length) (h2:hr.length≤1000000):f4 K (k:Int) hr=outZ (hr.take k):=by
 have hlen:(List.take k hr++(List.replicate (hr.length - k) d_int++List.drop (k+(hr.length - k)) hr)).length=hr.length:=by simp; omega
 show sh4 (k:Int) hr=_
 unfold sh4
 simp only [toNat_nat,show Int.toNat (Int.ofNat hr.length)=hr.length from rfl,hlen,Nat.sub_zero]
 rw [ileT (show (0:Int)≤(k:Int) by omega),ileT (show (k:Int)≤Int.ofNat hr.length by simp; omega),ileT (Int.le_refl (Int.ofNat hr.length)),nltT (show 0 < hr.length - k by omega),nleT (show k+(hr.length - k)≤hr.length by omega),ileT (Int.le_refl 0),nltT h0]
 have:List.take k (List.take k hr++(List.replicate (hr.length - k) d_int++List.drop (k+(hr.length - k)) hr))=List.take k hr:=by
  rw [List.take_append_of_le_length (by simp; omega),List.take_take,Nat.min_self]
 exact congrArg outZ this
theorem inner (K : Int → List Int → R) (lo cnt : Nat) (hlo : 0 < lo) : ∀ (n m k : Nat) (hr : List Int), cnt < n + m → 1 ≤ m → m ≤ cnt → lo + cnt = hr.length → 0 < k → k + 1 ≤ lo + m → hr.length ≤ 1000000 →
    f5 K n (k:Int) lo cnt (m:Int) hr=outZ (hr.take k++compA (hr.getD (lo+m - 1) d_int) (hr.drop (lo+m))):=by
  intro n
  induction n with
  | zero=>intro m k hr h1 _ h2; omega
  | succ n ih =>
    intro m k hr h1 h2 h3 h4 h5 h6 h7
    show sh5 (k:Int) lo cnt (m:Int) hr (f4 K) (f6 K (f5 K n))=_
    unfold sh5
    by_cases hm:m=cnt
    · rw [iltF (show ¬ (m : Int) < Int.ofNat cnt by simp; omega)]
      show f4 K (k:Int) hr=_
      rw [fin K hr k h5 (by omega) h7,List.drop_eq_nil_of_le (by omega)]
      exact congrArg outZ (List.append_nil _).symm
    · have hi : lo + m < hr.length := by omega
      have hp:lo+(m - 1) < hr.length:=by omega
      have hk:k < hr.length:=by omega
      rw [iltT (show (m:Int) < Int.ofNat cnt by simp; omega),wrapP m h2 (by omega)]
      simp only [toNat_nat]
      rw [inbT (show m < cnt by omega),nltT hi,inbT (show m - 1 < cnt by omega),nltT hp,inbT hk,nltT hk]
      rw [show lo+m - 1=lo+(m - 1) by omega,getD_lt hi,getD_lt hp,drop_lt hi]
      show condB (!((hr[lo+m] == hr[lo+(m - 1)]))) _ _=_
      unfold compA
      cases he:(hr[lo+m] == hr[lo+(m - 1)])
      · show f5 K n (IntKind.wrap .i64 ((k : Int) + 1)) lo cnt (IntKind.wrap .i64 ((m : Int) + 1)) (List.set hr k hr[lo + m]) = _
        rw [wrapS k (by omega),wrapS m (by omega),ih (m+1) (k+1) (List.set hr k hr[lo+m]) (by omega) (by omega) (by omega) (by simp; omega) (by omega) (by omega) (by simpa using h7)]
        have e1:List.take (k+1) (List.set hr k hr[lo+m])=List.take k hr++[hr[lo+m]]:=by
          rw [List.take_add_one,List.take_set_of_le (Nat.le_refl k),List.getElem?_set_self hk]
          rfl
        have e2:(List.set hr k hr[lo+m]).getD (lo+(m+1) - 1) d_int=hr[lo+m]:=by
          rw [show lo+(m+1) - 1=lo+m by omega,getD_lt (by simpa using hi),List.getElem_set_ne (by omega)]
        have e3:List.drop (lo+(m+1)) (List.set hr k hr[lo+m])=List.drop (lo+m+1) hr:=by
          rw [List.drop_set_of_lt (by omega)]
          rfl
        rw [e1,e2,e3,List.append_assoc]
        rfl
      · show f5 K n (k : Int) lo cnt (IntKind.wrap .i64 ((m : Int) + 1)) hr = _
        rw [wrapS m (by omega),ih (m+1) k hr (by omega) (by omega) (by omega) h4 h5 (by omega) h7]
        rw [show lo+(m+1) - 1=lo+m by omega,getD_lt hi,eqZ he]
        rfl
theorem outer : ∀ (n k : Nat) (hr : List Int), hr.length < n + k → 1 ≤ k → k ≤ hr.length → hr.length ≤ 4000 →
    f2 n (k:Int) hr=outZ (hr.take k++compA (hr.getD (k - 1) d_int) (hr.drop k)):=by
  intro n
  induction n with
  | zero=>intro k hr h1 _ h2; omega
  | succ n ih =>
    intro k hr h1 h2 h3 h4
    show sh2 (k:Int) hr f1 (f3 (f2 n)) (f5 (f2 n) 100000)=_
    unfold sh2
    by_cases hk:k=hr.length
    · rw [iltF (show ¬ (k : Int) < Int.ofNat hr.length by simp; omega), List.drop_eq_nil_of_le (by omega), List.take_of_length_le (by omega)]
      exact congrArg outZ (List.append_nil _).symm
    · have hkl : k < hr.length := by omega
      have hp:k - 1 < hr.length:=by omega
      rw [iltT (show (k:Int) < Int.ofNat hr.length by simp; omega),wrapP k h2 (by omega)]
      simp only [toNat_nat]
      rw [inbT hkl,nltT hkl,inbT hp,nltT hp,getD_lt hkl,getD_lt hp,drop_lt hkl]
      show condB ((hr[k] == hr[k - 1])) _ _=_
      unfold compA
      cases he:(hr[k] == hr[k - 1])
      · show f2 n (IntKind.wrap .i64 ((k : Int) + 1)) hr = _
        rw [wrapS k (by omega),ih (k+1) hr (by omega) (by omega) (by omega) h4,show k+1 - 1=k by omega,getD_lt hkl,List.take_add_one,List.getElem?_eq_getElem hkl,List.append_assoc]
        rfl
      · show chk (ile 0 (k : Int) && ile (k : Int) (Int.ofNat hr.length) && ile (Int.ofNat hr.length) (Int.ofNat hr.length)) (f5 (f2 n) 100000 (k : Int) k (hr.length - k) (1 : Int) hr) = _
        rw [ileT (show (0:Int)≤(k:Int) by omega),ileT (show (k:Int)≤Int.ofNat hr.length by simp; omega),ileT (Int.le_refl (Int.ofNat hr.length))]
        show f5 (f2 n) 100000 (k:Int) k (hr.length - k) ((1:Nat):Int) hr=_
        rw [inner (f2 n) k (hr.length - k) (by omega) 100000 1 k hr (by omega) (by omega) (by omega) (by omega) (by omega) (by omega) (by omega)]
        rw [show k+1 - 1=k by omega,getD_lt hkl,eqZ he]
        rfl
theorem f0_eq (l:List Int) (h:nle (List.length l) 4000=true):f0 l=outZ (compactL l):=by
  have hl:l.length≤4000:=of_decide_eq_true h
  show sh0 l (f2 100000)=_
  unfold sh0
  match l,hl with
  | [],_=>rfl
  | [x],_=>rfl
  | x :: y :: l, hl =>
    rw [iltF (show ¬ Int.ofNat (x :: y :: l).length < 2 by simp; omega)]
    show f2 100000 ((1:Nat):Int) (x :: y :: l)=_
    rw [outer 100000 1 (x :: y :: l) (by simp only [List.length_cons] at hl ⊢; omega) (Nat.le_refl _) (by simp) hl]
    rfl
theorem ok:CtxOk Tryz.prog X:=ctxOk tab spN dpN
theorem okM:MOk Tryz.prog X:=fun g sp h=>by cases h
theorem spec (l:List Int) (h:(nle (List.length l) 4000)=true):MCall Tryz.prog E 142 [(.ful 1000000000)] [(1000000000,(.rows .int l))] (.ful 2) [(2,(.rows .int (compactL l)))] :=
 runM_sound ok okM Tryz.func142 (by kernel_rfl) (by kernel_rfl) (by kernel_rfl) (by show 1≤61; decide) ((run l).trans (f0_eq l h))
noncomputable def sp:MSp U El:=fun args hs k=>match args,hs with
 | [.ful q0],[(q1,.rows .int l)]=>chk (Nat.beq q0 1000000000&&(Nat.beq q1 1000000000&&true)) (chk (nle (List.length l) 4000) (k (.ful 2) [(2,(.rows .int (compactL l)))]))
 | _,_=>none
theorem spOk:MSpOk Tryz.prog E 142 sp:=⟨Tryz.call142,fun args hs k r h=>by
 unfold sp at h
 split at h
 ·obtain ⟨hq,hA⟩:=chk_some h
  clear h
  simp only [Bool.and_eq_true] at hq
  obtain ⟨e0,e1,_⟩:=hq
  cases Nat.eq_of_beq_eq_true e0
  cases Nat.eq_of_beq_eq_true e1
  obtain ⟨h1,hB⟩:=chk_some hA
  exact ⟨_,_,spec _ h1,hB⟩
 ·cases h⟩
theorem spDet:∀ args hs,∃ oo:Option (AV U El×Heap U El),∀ k,sp args hs k=oo.bind fun p=>k p.1 p.2:=fun args hs=>by
 unfold sp
 split
 ·exact det_chkM (det_chkM ⟨some (_,_),fun _=>rfl⟩)
 ·exact ⟨none,fun _=>rfl⟩
end compactI
noncomputable def markC (x:Node) (s:List UInt8) (r:Rule) (c:Cnd):List Int :=
 bif !(r.rl == s) then [] else bif !(c.cn == x.nn) then [] else bif ilt (possS x).slo c.cl&&ile c.cl (possS x).shi then [(possS x).slo,c.cl] else [(possS x).slo]
noncomputable def rawR (x:Node) (s:List UInt8) (r:Rule):List Int:=r.rw.flatMap (markC x s r)
noncomputable def rawM (x:Node) (s:List UInt8) (l:List Rule):List Int:=l.flatMap (rawR x s)
noncomputable def marksC (l:List Rule) (n:Net) (s:List UInt8):List (List Int):=n.nds.map fun x=>compactL (sortI (rawM x s l))
theorem markC_len (x:Node) (s:List UInt8) (r:Rule) (c:Cnd):(markC x s r c).length≤2:=by
 unfold markC
 cases r.rl == s<;>cases c.cn == x.nn<;>cases (ilt (possS x).slo c.cl&&ile c.cl (possS x).shi)<;>simp
theorem flat_len {α β:Type} (f:α→List β) (k:Nat) (hf:∀ a,(f a).length≤k):∀ l:List α,(l.flatMap f).length≤k * l.length:=by
  intro l
  induction l with
  | nil=>simp
  | cons a l ih =>
    have:=hf a
    rw [List.flatMap_cons,List.length_append,List.length_cons,Nat.mul_add,Nat.mul_one]
    omega
theorem rawR_len (x:Node) (s:List UInt8) (r:Rule):(rawR x s r).length≤2 * r.rw.length:=flat_len _ 2 (markC_len x s r) r.rw
theorem rawM_len (x:Node) (s:List UInt8):∀ (l:List Rule),(∀ r∈l,r.rw.length≤20)→(rawM x s l).length≤40 * l.length:=by
  intro l
  induction l with
  | nil=>intro _; simp [rawM]
  | cons r l ih =>
    intro h
    have h1:=rawR_len x s r
    have h2:=h r (by simp)
    have h3:=ih (fun r hr=>h r (by simp [hr]))
    unfold rawM at *
    rw [List.flatMap_cons,List.length_append,List.length_cons]
    omega
namespace marks
noncomputable def bd:Code:=(Tryz.f119.body).getD .skip
noncomputable def X:Ctx U El:=⟨E,tds,zeros,eqs,specOf [(113,possible.sp)],100000,83,dspecOf [],mspecOf [(141,sortISp),(142,(mcSp compactI.sp))],fun _=>none⟩
noncomputable def nmR:Norm U:=⟨[(6,.ints)],[6],[6],[],[],[],[]⟩
noncomputable def RR:Kont U El:=fun st=>normK nmR st (retFin [6] [6])
noncomputable def nm1:Norm U:=⟨[(7,.ints)],[7],[7],[],[],[],[]⟩
noncomputable def nm2:Norm U:=⟨[(7,.ints)],[0,2,7,17,18,19],[7],[],[],[],[]⟩
noncomputable def nm3:Norm U:=⟨[(7,.ints)],[0,2,7,17,18,19],[7],[],[],[],[]⟩
noncomputable def nm4:Norm U:=⟨[(7,.ints),(10,.int)],[0,2,7,10,17,18,19],[7,10],[],[],[],[]⟩
noncomputable def nm5:Norm U:=⟨[(7,.ints),(10,.int)],[0,2,7,9,10,11,17,18,19,26,27,28],[7,10,9,11],[],[],[],[(9,6,.knot)]⟩
noncomputable def nm6:Norm U:=⟨[(7,.ints),(10,.int)],[0,2,7,9,10,11,17,18,19,26,27,28],[7,10,9,11],[],[],[],[(9,6,.knot)]⟩
noncomputable def nm7:Norm U:=⟨[(7,.ints),(10,.int)],[0,2,7,9,10,11,13,17,18,19,26,27,28,33,34,35],[7,10,9,11,13],[],[],[],[(9,6,.knot),(13,1,.cnd)]⟩
noncomputable def nm8:Norm U:=⟨[(7,.ints),(10,.int)],[0,2,7,9,10,11,13,17,18,19,26,27,28,33,34,35],[7,10,9,11,13],[],[],[],[(9,6,.knot),(13,1,.cnd)]⟩
noncomputable def nm9:Norm U:=⟨[(7,.ints),(10,.int)],[0,2,7,9,10,11,13,15,17,18,19,26,27,28,33,34,35],[7,10,9,11,13,15],[],[],[],[(9,6,.knot),(13,1,.cnd)]⟩
abbrev Y1:=(List (List Int))→R
abbrev Y2:=(List Rule)→(List UInt8)→(List (List Int))→(List Node)→Int→Int→R
abbrev Y3:=(List Rule)→(List UInt8)→(List (List Int))→(List Node)→Int→Int→R
abbrev Y4:=(List Rule)→(List UInt8)→(List (List Int))→(List Int)→(List Node)→Int→Int→R
abbrev Y5:=(List Rule)→(List UInt8)→(List (List Int))→(List Int)→(List Node)→Int→Int→(List Rule)→Int→Int→(List UInt8)→Int→Int→Int→Int→Int→(List Knot)→Bool→Int→Span→R
abbrev Y6:=(List Rule)→(List UInt8)→(List (List Int))→(List Int)→(List Node)→Int→Int→(List Rule)→Int→Int→(List UInt8)→Int→Int→Int→Int→Int→(List Knot)→Bool→Int→Span→R
abbrev Y7:=(List Rule)→(List UInt8)→(List (List Int))→(List Int)→(List Node)→Int→Int→(List Rule)→Int→Int→(List Cnd)→Int→Int→(List UInt8)→Int→Int→Int→Int→Int→(List Knot)→Bool→Int→Span→(List UInt8)→(List Cnd)→(List UInt8)→Int→R
abbrev Y8:=(List Rule)→(List UInt8)→(List (List Int))→(List Int)→(List Node)→Int→Int→(List Rule)→Int→Int→(List Cnd)→Int→Int→(List UInt8)→Int→Int→Int→Int→Int→(List Knot)→Bool→Int→Span→(List UInt8)→(List Cnd)→(List UInt8)→Int→R
abbrev Y9:=(List Rule)→(List UInt8)→(List (List Int))→(List Int)→(List Node)→Int→Int→(List Rule)→Int→Int→(List Cnd)→Int→Int→(List UInt8)→Int→Int→Int→Int→Int→(List Knot)→Bool→Int→Span→(List UInt8)→(List Cnd)→(List UInt8)→Int→Cnd→R
noncomputable def fr0 (l:List Rule) (n:Net) (s:List UInt8):St U El:=⟨[(0,(.lst .rule l)),(1,(.agg [(.lst .node n.nds),(.lst .link n.lks)])),(2,(.str s))],[]⟩
noncomputable def fr1 (bA:List (List Int)):St U El:=⟨[(7,(.ful 7))],[(7,(.rows .ints bA))]⟩
noncomputable def fr2 (l0:List Rule) (aA:List UInt8) (bA:List (List Int)) (oA:List Node) (nA:Int) (mA:Int):St U El:=⟨[(0,(.lst .rule l0)),(2,(.str aA)),(7,(.ful 7)),(17,(.lst .node oA)),(18,(.int .i64 nA)),(19,(.int .i64 mA))],[(7,(.rows .ints bA))]⟩
noncomputable def fr3 (l0:List Rule) (aA:List UInt8) (bA:List (List Int)) (oA:List Node) (nA:Int) (mA:Int):St U El:=⟨[(0,(.lst .rule l0)),(2,(.str aA)),(7,(.ful 7)),(17,(.lst .node oA)),(18,(.int .i64 nA)),(19,(.int .i64 mA))],[(7,(.rows .ints bA))]⟩
noncomputable def fr4 (l0:List Rule) (aA:List UInt8) (bA:List (List Int)) (vA:List Int) (oA:List Node) (nA:Int) (mA:Int):St U El:=⟨[(0,(.lst .rule l0)),(2,(.str aA)),(7,(.ful 7)),(10,(.ful 10)),(17,(.lst .node oA)),(18,(.int .i64 nA)),(19,(.int .i64 mA))],[(7,(.rows .ints bA)),(10,(.rows .int vA))]⟩
noncomputable def fr5 (l0:List Rule) (aA:List UInt8) (bA:List (List Int)) (vA:List Int) (oA:List Node) (nA:Int) (mA:Int) (zA:List Rule) (yA:Int) (wA:Int) (cA:List UInt8) (dA:Int) (eA:Int) (fA:Int) (gA:Int) (iA:Int) (jA:List Knot) (kA:Bool) (lA:Int) (xA:Span):St U El:=⟨[(0,(.lst .rule l0)),(2,(.str aA)),(7,(.ful 7)),(9,(.ptr 9 0)),(10,(.ful 10)),(11,(.ptr 11 0)),(17,(.lst .node oA)),(18,(.int .i64 nA)),(19,(.int .i64 mA)),(26,(.lst .rule zA)),(27,(.int .i64 yA)),(28,(.int .i64 wA))],[(7,(.rows .ints bA)),(10,(.rows .int vA)),(9,(.box 0 [(.str cA),(.int .i64 dA),(.int .i64 eA),(.int .i64 fA),(.int .i64 gA),(.int .i64 iA),(.lst .knot jA),(.bool kA),(.int .i64 lA)])),(11,(.box 0 [(.int .i64 xA.slo),(.int .i64 xA.shi)]))]⟩
noncomputable def fr6 (l0:List Rule) (aA:List UInt8) (bA:List (List Int)) (vA:List Int) (oA:List Node) (nA:Int) (mA:Int) (zA:List Rule) (yA:Int) (wA:Int) (cA:List UInt8) (dA:Int) (eA:Int) (fA:Int) (gA:Int) (iA:Int) (jA:List Knot) (kA:Bool) (lA:Int) (xA:Span):St U El:=⟨[(0,(.lst .rule l0)),(2,(.str aA)),(7,(.ful 7)),(9,(.ptr 9 0)),(10,(.ful 10)),(11,(.ptr 11 0)),(17,(.lst .node oA)),(18,(.int .i64 nA)),(19,(.int .i64 mA)),(26,(.lst .rule zA)),(27,(.int .i64 yA)),(28,(.int .i64 wA))],[(7,(.rows .ints bA)),(10,(.rows .int vA)),(9,(.box 0 [(.str cA),(.int .i64 dA),(.int .i64 eA),(.int .i64 fA),(.int .i64 gA),(.int .i64 iA),(.lst .knot jA),(.bool kA),(.int .i64 lA)])),(11,(.box 0 [(.int .i64 xA.slo),(.int .i64 xA.shi)]))]⟩
noncomputable def fr7 (l0:List Rule) (aA:List UInt8) (bA:List (List Int)) (vA:List Int) (oA:List Node) (nA:Int) (mA:Int) (zA:List Rule) (yA:Int) (wA:Int) (bB:List Cnd) (cB:Int) (aB:Int) (cA:List UInt8) (dA:Int) (eA:Int) (fA:Int) (gA:Int) (iA:Int) (jA:List Knot) (kA:Bool) (lA:Int) (xA:Span) (qA:List UInt8) (rA:List Cnd) (pA:List UInt8) (sA:Int):St U El:=⟨[(0,(.lst .rule l0)),(2,(.str aA)),(7,(.ful 7)),(9,(.ptr 9 0)),(10,(.ful 10)),(11,(.ptr 11 0)),(13,(.ptr 13 0)),(17,(.lst .node oA)),(18,(.int .i64 nA)),(19,(.int .i64 mA)),(26,(.lst .rule zA)),(27,(.int .i64 yA)),(28,(.int .i64 wA)),(33,(.lst .cnd bB)),(34,(.int .i64 cB)),(35,(.int .i64 aB))],[(7,(.rows .ints bA)),(10,(.rows .int vA)),(9,(.box 0 [(.str cA),(.int .i64 dA),(.int .i64 eA),(.int .i64 fA),(.int .i64 gA),(.int .i64 iA),(.lst .knot jA),(.bool kA),(.int .i64 lA)])),(11,(.box 0 [(.int .i64 xA.slo),(.int .i64 xA.shi)])),(13,(.box 0 [(.str qA),(.lst .cnd rA),(.str pA),(.int .i64 sA)]))]⟩
noncomputable def fr8 (l0:List Rule) (aA:List UInt8) (bA:List (List Int)) (vA:List Int) (oA:List Node) (nA:Int) (mA:Int) (zA:List Rule) (yA:Int) (wA:Int) (bB:List Cnd) (cB:Int) (aB:Int) (cA:List UInt8) (dA:Int) (eA:Int) (fA:Int) (gA:Int) (iA:Int) (jA:List Knot) (kA:Bool) (lA:Int) (xA:Span) (qA:List UInt8) (rA:List Cnd) (pA:List UInt8) (sA:Int):St U El:=⟨[(0,(.lst .rule l0)),(2,(.str aA)),(7,(.ful 7)),(9,(.ptr 9 0)),(10,(.ful 10)),(11,(.ptr 11 0)),(13,(.ptr 13 0)),(17,(.lst .node oA)),(18,(.int .i64 nA)),(19,(.int .i64 mA)),(26,(.lst .rule zA)),(27,(.int .i64 yA)),(28,(.int .i64 wA)),(33,(.lst .cnd bB)),(34,(.int .i64 cB)),(35,(.int .i64 aB))],[(7,(.rows .ints bA)),(10,(.rows .int vA)),(9,(.box 0 [(.str cA),(.int .i64 dA),(.int .i64 eA),(.int .i64 fA),(.int .i64 gA),(.int .i64 iA),(.lst .knot jA),(.bool kA),(.int .i64 lA)])),(11,(.box 0 [(.int .i64 xA.slo),(.int .i64 xA.shi)])),(13,(.box 0 [(.str qA),(.lst .cnd rA),(.str pA),(.int .i64 sA)]))]⟩
noncomputable def fr9 (l0:List Rule) (aA:List UInt8) (bA:List (List Int)) (vA:List Int) (oA:List Node) (nA:Int) (mA:Int) (zA:List Rule) (yA:Int) (wA:Int) (bB:List Cnd) (cB:Int) (aB:Int) (cA:List UInt8) (dA:Int) (eA:Int) (fA:Int) (gA:Int) (iA:Int) (jA:List Knot) (kA:Bool) (lA:Int) (xA:Span) (qA:List UInt8) (rA:List Cnd) (pA:List UInt8) (sA:Int) (eB:Cnd):St U El:=⟨[(0,(.lst .rule l0)),(2,(.str aA)),(7,(.ful 7)),(9,(.ptr 9 0)),(10,(.ful 10)),(11,(.ptr 11 0)),(13,(.ptr 13 0)),(15,(.ptr 15 0)),(17,(.lst .node oA)),(18,(.int .i64 nA)),(19,(.int .i64 mA)),(26,(.lst .rule zA)),(27,(.int .i64 yA)),(28,(.int .i64 wA)),(33,(.lst .cnd bB)),(34,(.int .i64 cB)),(35,(.int .i64 aB))],[(7,(.rows .ints bA)),(10,(.rows .int vA)),(9,(.box 0 [(.str cA),(.int .i64 dA),(.int .i64 eA),(.int .i64 fA),(.int .i64 gA),(.int .i64 iA),(.lst .knot jA),(.bool kA),(.int .i64 lA)])),(11,(.box 0 [(.int .i64 xA.slo),(.int .i64 xA.shi)])),(13,(.box 0 [(.str qA),(.lst .cnd rA),(.str pA),(.int .i64 sA)])),(15,(.box 0 [(.str eB.cn),(.bool eB.cb),(.int .i64 eB.cl)]))]⟩
noncomputable def sh0 (l:List Rule) (n:Net) (s:List UInt8) (k2:Y2):R :=
 k2 l s ([]:List (List Int)) n.nds (Int.ofNat (List.length n.nds)) (0:Int)
noncomputable def sh1 (bA:List (List Int)):R :=
 some ((.ful 0),[(0,.rows .ints bA)])
noncomputable def sh2 (l0:List Rule) (aA:List UInt8) (bA:List (List Int)) (oA:List Node) (nA:Int) (mA:Int) (k1:Y1) (k5:Y5):R :=
 condB (ilt mA nA) (chk (inb mA (List.length oA)) (k5 l0 aA bA ([]:List Int) oA nA mA l0 (Int.ofNat (List.length l0)) (0:Int) ((List.getD oA (Int.toNat mA) d_node).nn) ((List.getD oA (Int.toNat mA) d_node).nk) ((List.getD oA (Int.toNat mA) d_node).nx) ((List.getD oA (Int.toNat mA) d_node).ny) ((List.getD oA (Int.toNat mA) d_node).ni) ((List.getD oA (Int.toNat mA) d_node).ng) ((List.getD oA (Int.toNat mA) d_node).nh) ((List.getD oA (Int.toNat mA) d_node).np) ((List.getD oA (Int.toNat mA) d_node).nr) (possS (List.getD oA (Int.toNat mA) d_node)))) (k1 bA)
noncomputable def sh3 (l0:List Rule) (aA:List UInt8) (bA:List (List Int)) (oA:List Node) (nA:Int) (mA:Int) (k2:Y2):R :=
 k2 l0 aA bA oA nA (IntKind.wrap .i64 (mA+(1:Int)))
noncomputable def sh4 (l0:List Rule) (aA:List UInt8) (bA:List (List Int)) (vA:List Int) (oA:List Node) (nA:Int) (mA:Int) (k3:Y3):R :=
 chk (nle (List.length vA) 100000) (chk (nle (List.length (sortI vA)) 4000) (chk (nle ((List.length bA+List.length ([(compactL (sortI vA))]:List (List Int))) * 24) 140737488355328&&nle (List.length bA+List.length ([(compactL (sortI vA))]:List (List Int))) 9223372036854775807) (k3 l0 aA (bA++([(compactL (sortI vA))]:List (List Int))) oA nA mA)))
noncomputable def sh5 (l0:List Rule) (aA:List UInt8) (bA:List (List Int)) (vA:List Int) (oA:List Node) (nA:Int) (mA:Int) (zA:List Rule) (yA:Int) (wA:Int) (cA:List UInt8) (dA:Int) (eA:Int) (fA:Int) (gA:Int) (iA:Int) (jA:List Knot) (kA:Bool) (lA:Int) (xA:Span) (k4:Y4) (k7:Y7):R :=
 condB (ilt wA yA) (chk (inb wA (List.length zA)) (k7 l0 aA bA vA oA nA mA zA yA wA ((List.getD zA (Int.toNat wA) d_rule).rw) (Int.ofNat (List.length ((List.getD zA (Int.toNat wA) d_rule).rw))) (0:Int) cA dA eA fA gA iA jA kA lA xA ((List.getD zA (Int.toNat wA) d_rule).rn) ((List.getD zA (Int.toNat wA) d_rule).rw) ((List.getD zA (Int.toNat wA) d_rule).rl) ((List.getD zA (Int.toNat wA) d_rule).rs))) (k4 l0 aA bA vA oA nA mA)
noncomputable def sh6 (l0:List Rule) (aA:List UInt8) (bA:List (List Int)) (vA:List Int) (oA:List Node) (nA:Int) (mA:Int) (zA:List Rule) (yA:Int) (wA:Int) (cA:List UInt8) (dA:Int) (eA:Int) (fA:Int) (gA:Int) (iA:Int) (jA:List Knot) (kA:Bool) (lA:Int) (xA:Span) (k5:Y5):R :=
 k5 l0 aA bA vA oA nA mA zA yA (IntKind.wrap .i64 (wA+(1:Int))) cA dA eA fA gA iA jA kA lA xA
noncomputable def sh7 (l0:List Rule) (aA:List UInt8) (bA:List (List Int)) (vA:List Int) (oA:List Node) (nA:Int) (mA:Int) (zA:List Rule) (yA:Int) (wA:Int) (bB:List Cnd) (cB:Int) (aB:Int) (cA:List UInt8) (dA:Int) (eA:Int) (fA:Int) (gA:Int) (iA:Int) (jA:List Knot) (kA:Bool) (lA:Int) (xA:Span) (qA:List UInt8) (rA:List Cnd) (pA:List UInt8) (sA:Int) (k6:Y6) (k8:Y8) (k9:Y9):R :=
 condB (ilt aB cB) (chk (inb aB (List.length bB)) (condB (!(pA == aA)) (k8 l0 aA bA vA oA nA mA zA yA wA bB cB aB cA dA eA fA gA iA jA kA lA xA qA rA pA sA) (condB (!(((List.getD bB (Int.toNat aB) d_cnd).cn) == cA)) (k8 l0 aA bA vA oA nA mA zA yA wA bB cB aB cA dA eA fA gA iA jA kA lA xA qA rA pA sA) (k9 l0 aA bA vA oA nA mA zA yA wA bB cB aB cA dA eA fA gA iA jA kA lA xA qA rA pA sA (List.getD bB (Int.toNat aB) d_cnd))))) (k6 l0 aA bA vA oA nA mA zA yA wA cA dA eA fA gA iA jA kA lA xA)
noncomputable def sh8 (l0:List Rule) (aA:List UInt8) (bA:List (List Int)) (vA:List Int) (oA:List Node) (nA:Int) (mA:Int) (zA:List Rule) (yA:Int) (wA:Int) (bB:List Cnd) (cB:Int) (aB:Int) (cA:List UInt8) (dA:Int) (eA:Int) (fA:Int) (gA:Int) (iA:Int) (jA:List Knot) (kA:Bool) (lA:Int) (xA:Span) (qA:List UInt8) (rA:List Cnd) (pA:List UInt8) (sA:Int) (k7:Y7):R :=
 k7 l0 aA bA vA oA nA mA zA yA wA bB cB (IntKind.wrap .i64 (aB+(1:Int))) cA dA eA fA gA iA jA kA lA xA qA rA pA sA
noncomputable def sh9 (l0:List Rule) (aA:List UInt8) (bA:List (List Int)) (vA:List Int) (oA:List Node) (nA:Int) (mA:Int) (zA:List Rule) (yA:Int) (wA:Int) (bB:List Cnd) (cB:Int) (aB:Int) (cA:List UInt8) (dA:Int) (eA:Int) (fA:Int) (gA:Int) (iA:Int) (jA:List Knot) (kA:Bool) (lA:Int) (xA:Span) (qA:List UInt8) (rA:List Cnd) (pA:List UInt8) (sA:Int) (eB:Cnd) (k8:Y8):R :=
 chk (nle ((List.length vA+List.length ([xA.slo]:List Int)) * 8) 140737488355328&&nle (List.length vA+List.length ([xA.slo]:List Int)) 9223372036854775807) (condB (ilt xA.slo eB.cl) (condB (ile eB.cl xA.shi) (chk (nle ((List.length (vA++([xA.slo]:List Int))+List.length ([eB.cl]:List Int)) * 8) 140737488355328&&nle (List.length (vA++([xA.slo]:List Int))+List.length ([eB.cl]:List Int)) 9223372036854775807) (k8 l0 aA bA ((vA++([xA.slo]:List Int))++([eB.cl]:List Int)) oA nA mA zA yA wA bB cB aB cA dA eA fA gA iA jA kA lA xA qA rA pA sA)) (k8 l0 aA bA (vA++([xA.slo]:List Int)) oA nA mA zA yA wA bB cB aB cA dA eA fA gA iA jA kA lA xA qA rA pA sA)) (k8 l0 aA bA (vA++([xA.slo]:List Int)) oA nA mA zA yA wA bB cB aB cA dA eA fA gA iA jA kA lA xA qA rA pA sA))
noncomputable def it2 (Kb1:Kont U El) (n:Nat):Kont U El:=iter nm2 (fun st' K'=>exec X (cdp [1,1,0,1,0,0] bd) (.seq none .d (.seq none .d (.seq (some nm3) (.block (.seq none .d (.seq none .d (.seq none .d (.seq (some nm4) (.seq none .d (.block (.loop nm5 (.seq none .d (.seq none .d (.seq (some nm6) (.block (.seq none .d (.seq none .d (.block (.loop nm7 (.seq none .d (.seq none .d (.seq (some nm8) (.block (.seq none .d (.seq (some nm9) .d .d))) .d)))))))) .d)))))) .d))))) .d))) st' K' (Eblk 0 (cutK nm1 Kb1) (fun _ _=>none)) RR) n
noncomputable def it5 (Kb1 Kb3 Kb4:Kont U El) (n:Nat):Kont U El:=iter nm5 (fun st' K'=>exec X (cdp [1,1,0,1,0,0,1,1,0,0,1,1,1,0,1,0,0] bd) (.seq none .d (.seq none .d (.seq (some nm6) (.block (.seq none .d (.seq none .d (.block (.loop nm7 (.seq none .d (.seq none .d (.seq (some nm8) (.block (.seq none .d (.seq (some nm9) .d .d))) .d)))))))) .d))) st' K' (Eblk 2 (cutK nm4 Kb4) (Eblk 1 (cutK nm3 Kb3) (Eblk 0 (cutK nm1 Kb1) (fun _ _=>none)))) RR) n
noncomputable def it7 (Kb1 Kb3 Kb4 Kb6:Kont U El) (n:Nat):Kont U El:=iter nm7 (fun st' K'=>exec X (cdp [1,1,0,1,0,0,1,1,0,0,1,1,1,0,1,0,0,1,1,0,0,1,1,0,0] bd) (.seq none .d (.seq none .d (.seq (some nm8) (.block (.seq none .d (.seq (some nm9) .d .d))) .d))) st' K' (Eblk 4 (cutK nm6 Kb6) (Eblk 3 (cutK nm6 Kb6) (Eblk 2 (cutK nm4 Kb4) (Eblk 1 (cutK nm3 Kb3) (Eblk 0 (cutK nm1 Kb1) (fun _ _=>none)))))) RR) n
noncomputable def ct1:Kont U El:=fun st=>exec X (cdp [1,1,1] bd) .d st RR (fun _ _=>none) RR
noncomputable def ct3 (Kb1 Kb2:Kont U El):Kont U El:=fun st=>exec X (cdp [1,1,0,1,0,0,1,1,1] bd) .d st (cutK nm2 Kb2) (Eblk 0 (cutK nm1 Kb1) (fun _ _=>none)) RR
noncomputable def ct4 (Kb1 Kb3:Kont U El):Kont U El:=fun st=>exec X (cdp [1,1,0,1,0,0,1,1,0,0,1,1,1,1] bd) .d st (cutK nm3 Kb3) (Eblk 1 (cutK nm3 Kb3) (Eblk 0 (cutK nm1 Kb1) (fun _ _=>none))) RR
noncomputable def ct6 (Kb1 Kb3 Kb4 Kb5:Kont U El):Kont U El:=fun st=>exec X (cdp [1,1,0,1,0,0,1,1,0,0,1,1,1,0,1,0,0,1,1,1] bd) .d st (cutK nm5 Kb5) (Eblk 2 (cutK nm4 Kb4) (Eblk 1 (cutK nm3 Kb3) (Eblk 0 (cutK nm1 Kb1) (fun _ _=>none)))) RR
noncomputable def ct8 (Kb1 Kb3 Kb4 Kb6 Kb7:Kont U El):Kont U El:=fun st=>exec X (cdp [1,1,0,1,0,0,1,1,0,0,1,1,1,0,1,0,0,1,1,0,0,1,1,0,0,1,1,1] bd) .d st (cutK nm7 Kb7) (Eblk 4 (cutK nm6 Kb6) (Eblk 3 (cutK nm6 Kb6) (Eblk 2 (cutK nm4 Kb4) (Eblk 1 (cutK nm3 Kb3) (Eblk 0 (cutK nm1 Kb1) (fun _ _=>none)))))) RR
noncomputable def ct9 (Kb1 Kb3 Kb4 Kb6 Kb8:Kont U El):Kont U El:=fun st=>exec X (cdp [1,1,0,1,0,0,1,1,0,0,1,1,1,0,1,0,0,1,1,0,0,1,1,0,0,1,1,0,0,1,1] bd) .d st (cutK nm8 Kb8) (Eblk 5 (cutK nm8 Kb8) (Eblk 4 (cutK nm6 Kb6) (Eblk 3 (cutK nm6 Kb6) (Eblk 2 (cutK nm4 Kb4) (Eblk 1 (cutK nm3 Kb3) (Eblk 0 (cutK nm1 Kb1) (fun _ _=>none))))))) RR
theorem P0 (l n s):exec X (cdp [] bd) (.seq none .d (.seq none .d (.seq (some nm1) (.seq none .d (.block (.loop nm2 (.seq none .d (.seq none .d (.seq (some nm3) (.block (.seq none .d (.seq none .d (.seq none .d (.seq (some nm4) (.seq none .d (.block (.loop nm5 (.seq none .d (.seq none .d (.seq (some nm6) (.block (.seq none .d (.seq none .d (.block (.loop nm7 (.seq none .d (.seq none .d (.seq (some nm8) (.block (.seq none .d (.seq (some nm9) .d .d))) .d)))))))) .d)))))) .d))))) .d)))))) .d))) (fr0 l n s) RR (fun _ _=>none) RR=sh0 l n s (fun y0 y1 y2 y3 y4 y5=>(hid (it2 (hid ct1) 100000)) (fr2 y0 y1 y2 y3 y4 y5)):=by kernel_rfl
theorem P1 (bA):ct1 (fr1 bA)=sh1 bA:=by kernel_rfl
theorem P2 (l0 aA bA oA nA mA) (Kb1 Kb2:Kont U El):exec X (cdp [1,1,0,1,0,0] bd) (.seq none .d (.seq none .d (.seq (some nm3) (.block (.seq none .d (.seq none .d (.seq none .d (.seq (some nm4) (.seq none .d (.block (.loop nm5 (.seq none .d (.seq none .d (.seq (some nm6) (.block (.seq none .d (.seq none .d (.block (.loop nm7 (.seq none .d (.seq none .d (.seq (some nm8) (.block (.seq none .d (.seq (some nm9) .d .d))) .d)))))))) .d)))))) .d))))) .d))) (fr2 l0 aA bA oA nA mA) (cutK nm2 Kb2) (Eblk 0 (cutK nm1 Kb1) (fun _ _=>none)) RR=sh2 l0 aA bA oA nA mA (fun y0=>Kb1 (fr1 y0)) (fun y0 y1 y2 y3 y4 y5 y6 y7 y8 y9 y10 y11 y12 y13 y14 y15 y16 y17 y18 y19=>(hid (it5 Kb1 (hid (ct3 Kb1 Kb2)) (hid (ct4 Kb1 (hid (ct3 Kb1 Kb2)))) 100000)) (fr5 y0 y1 y2 y3 y4 y5 y6 y7 y8 y9 y10 y11 y12 y13 y14 y15 y16 y17 y18 y19)):=by kernel_rfl
theorem P3 (l0 aA bA oA nA mA) (Kb1 Kb2:Kont U El):ct3 Kb1 Kb2 (fr3 l0 aA bA oA nA mA)=sh3 l0 aA bA oA nA mA (fun y0 y1 y2 y3 y4 y5=>Kb2 (fr2 y0 y1 y2 y3 y4 y5)):=by kernel_rfl
theorem P4 (l0 aA bA vA oA nA mA) (Kb1 Kb3:Kont U El):ct4 Kb1 Kb3 (fr4 l0 aA bA vA oA nA mA)=sh4 l0 aA bA vA oA nA mA (fun y0 y1 y2 y3 y4 y5=>Kb3 (fr3 y0 y1 y2 y3 y4 y5)):=by kernel_rfl
theorem P5 (l0 aA bA vA oA nA mA zA yA wA cA dA eA fA gA iA jA kA lA xA) (Kb1 Kb3 Kb4 Kb5:Kont U El):exec X (cdp [1,1,0,1,0,0,1,1,0,0,1,1,1,0,1,0,0] bd) (.seq none .d (.seq none .d (.seq (some nm6) (.block (.seq none .d (.seq none .d (.block (.loop nm7 (.seq none .d (.seq none .d (.seq (some nm8) (.block (.seq none .d (.seq (some nm9) .d .d))) .d)))))))) .d))) (fr5 l0 aA bA vA oA nA mA zA yA wA cA dA eA fA gA iA jA kA lA xA) (cutK nm5 Kb5) (Eblk 2 (cutK nm4 Kb4) (Eblk 1 (cutK nm3 Kb3) (Eblk 0 (cutK nm1 Kb1) (fun _ _=>none)))) RR=sh5 l0 aA bA vA oA nA mA zA yA wA cA dA eA fA gA iA jA kA lA xA (fun y0 y1 y2 y3 y4 y5 y6=>Kb4 (fr4 y0 y1 y2 y3 y4 y5 y6)) (fun y0 y1 y2 y3 y4 y5 y6 y7 y8 y9 y10 y11 y12 y13 y14 y15 y16 y17 y18 y19 y20 y21 y22 y23 y24 y25 y26=>(hid (it7 Kb1 Kb3 Kb4 (hid (ct6 Kb1 Kb3 Kb4 Kb5)) 100000)) (fr7 y0 y1 y2 y3 y4 y5 y6 y7 y8 y9 y10 y11 y12 y13 y14 y15 y16 y17 y18 y19 y20 y21 y22 y23 y24 y25 y26)):=by kernel_rfl
theorem P6 (l0 aA bA vA oA nA mA zA yA wA cA dA eA fA gA iA jA kA lA xA) (Kb1 Kb3 Kb4 Kb5:Kont U El):ct6 Kb1 Kb3 Kb4 Kb5 (fr6 l0 aA bA vA oA nA mA zA yA wA cA dA eA fA gA iA jA kA lA xA)=sh6 l0 aA bA vA oA nA mA zA yA wA cA dA eA fA gA iA jA kA lA xA (fun y0 y1 y2 y3 y4 y5 y6 y7 y8 y9 y10 y11 y12 y13 y14 y15 y16 y17 y18 y19=>Kb5 (fr5 y0 y1 y2 y3 y4 y5 y6 y7 y8 y9 y10 y11 y12 y13 y14 y15 y16 y17 y18 y19)):=by kernel_rfl
theorem P7 (l0 aA bA vA oA nA mA zA yA wA bB cB aB cA dA eA fA gA iA jA kA lA xA qA rA pA sA) (Kb1 Kb3 Kb4 Kb6 Kb7:Kont U El):exec X (cdp [1,1,0,1,0,0,1,1,0,0,1,1,1,0,1,0,0,1,1,0,0,1,1,0,0] bd) (.seq none .d (.seq none .d (.seq (some nm8) (.block (.seq none .d (.seq (some nm9) .d .d))) .d))) (fr7 l0 aA bA vA oA nA mA zA yA wA bB cB aB cA dA eA fA gA iA jA kA lA xA qA rA pA sA) (cutK nm7 Kb7) (Eblk 4 (cutK nm6 Kb6) (Eblk 3 (cutK nm6 Kb6) (Eblk 2 (cutK nm4 Kb4) (Eblk 1 (cutK nm3 Kb3) (Eblk 0 (cutK nm1 Kb1) (fun _ _=>none)))))) RR=sh7 l0 aA bA vA oA nA mA zA yA wA bB cB aB cA dA eA fA gA iA jA kA lA xA qA rA pA sA (fun y0 y1 y2 y3 y4 y5 y6 y7 y8 y9 y10 y11 y12 y13 y14 y15 y16 y17 y18 y19=>Kb6 (fr6 y0 y1 y2 y3 y4 y5 y6 y7 y8 y9 y10 y11 y12 y13 y14 y15 y16 y17 y18 y19)) (fun y0 y1 y2 y3 y4 y5 y6 y7 y8 y9 y10 y11 y12 y13 y14 y15 y16 y17 y18 y19 y20 y21 y22 y23 y24 y25 y26=>(hid (ct8 Kb1 Kb3 Kb4 Kb6 Kb7)) (fr8 y0 y1 y2 y3 y4 y5 y6 y7 y8 y9 y10 y11 y12 y13 y14 y15 y16 y17 y18 y19 y20 y21 y22 y23 y24 y25 y26)) (fun y0 y1 y2 y3 y4 y5 y6 y7 y8 y9 y10 y11 y12 y13 y14 y15 y16 y17 y18 y19 y20 y21 y22 y23 y24 y25 y26 y27=>(hid (ct9 Kb1 Kb3 Kb4 Kb6 (hid (ct8 Kb1 Kb3 Kb4 Kb6 Kb7)))) (fr9 y0 y1 y2 y3 y4 y5 y6 y7 y8 y9 y10 y11 y12 y13 y14 y15 y16 y17 y18 y19 y20 y21 y22 y23 y24 y25 y26 y27)):=by kernel_rfl
theorem P8 (l0 aA bA vA oA nA mA zA yA wA bB cB aB cA dA eA fA gA iA jA kA lA xA qA rA pA sA) (Kb1 Kb3 Kb4 Kb6 Kb7:Kont U El):ct8 Kb1 Kb3 Kb4 Kb6 Kb7 (fr8 l0 aA bA vA oA nA mA zA yA wA bB cB aB cA dA eA fA gA iA jA kA lA xA qA rA pA sA)=sh8 l0 aA bA vA oA nA mA zA yA wA bB cB aB cA dA eA fA gA iA jA kA lA xA qA rA pA sA (fun y0 y1 y2 y3 y4 y5 y6 y7 y8 y9 y10 y11 y12 y13 y14 y15 y16 y17 y18 y19 y20 y21 y22 y23 y24 y25 y26=>Kb7 (fr7 y0 y1 y2 y3 y4 y5 y6 y7 y8 y9 y10 y11 y12 y13 y14 y15 y16 y17 y18 y19 y20 y21 y22 y23 y24 y25 y26)):=by kernel_rfl
theorem P9 (l0 aA bA vA oA nA mA zA yA wA bB cB aB cA dA eA fA gA iA jA kA lA xA qA rA pA sA eB) (Kb1 Kb3 Kb4 Kb6 Kb8:Kont U El):ct9 Kb1 Kb3 Kb4 Kb6 Kb8 (fr9 l0 aA bA vA oA nA mA zA yA wA bB cB aB cA dA eA fA gA iA jA kA lA xA qA rA pA sA eB)=sh9 l0 aA bA vA oA nA mA zA yA wA bB cB aB cA dA eA fA gA iA jA kA lA xA qA rA pA sA eB (fun y0 y1 y2 y3 y4 y5 y6 y7 y8 y9 y10 y11 y12 y13 y14 y15 y16 y17 y18 y19 y20 y21 y22 y23 y24 y25 y26=>Kb8 (fr8 y0 y1 y2 y3 y4 y5 y6 y7 y8 y9 y10 y11 y12 y13 y14 y15 y16 y17 y18 y19 y20 y21 y22 y23 y24 y25 y26)):=by kernel_rfl
noncomputable def f1 (bA:List (List Int)):R:=sh1 bA
noncomputable def f3 (k2:Y2) (l0:List Rule) (aA:List UInt8) (bA:List (List Int)) (oA:List Node) (nA:Int) (mA:Int):R:=sh3 l0 aA bA oA nA mA k2
noncomputable def f4 (k2:Y2) (l0:List Rule) (aA:List UInt8) (bA:List (List Int)) (vA:List Int) (oA:List Node) (nA:Int) (mA:Int):R:=sh4 l0 aA bA vA oA nA mA (f3 k2)
noncomputable def f6 (k2:Y2) (k5:Y5) (l0:List Rule) (aA:List UInt8) (bA:List (List Int)) (vA:List Int) (oA:List Node) (nA:Int) (mA:Int) (zA:List Rule) (yA:Int) (wA:Int) (cA:List UInt8) (dA:Int) (eA:Int) (fA:Int) (gA:Int) (iA:Int) (jA:List Knot) (kA:Bool) (lA:Int) (xA:Span):R:=sh6 l0 aA bA vA oA nA mA zA yA wA cA dA eA fA gA iA jA kA lA xA k5
noncomputable def f8 (k2:Y2) (k5:Y5) (k7:Y7) (l0:List Rule) (aA:List UInt8) (bA:List (List Int)) (vA:List Int) (oA:List Node) (nA:Int) (mA:Int) (zA:List Rule) (yA:Int) (wA:Int) (bB:List Cnd) (cB:Int) (aB:Int) (cA:List UInt8) (dA:Int) (eA:Int) (fA:Int) (gA:Int) (iA:Int) (jA:List Knot) (kA:Bool) (lA:Int) (xA:Span) (qA:List UInt8) (rA:List Cnd) (pA:List UInt8) (sA:Int):R:=sh8 l0 aA bA vA oA nA mA zA yA wA bB cB aB cA dA eA fA gA iA jA kA lA xA qA rA pA sA k7
noncomputable def f9 (k2:Y2) (k5:Y5) (k7:Y7) (l0:List Rule) (aA:List UInt8) (bA:List (List Int)) (vA:List Int) (oA:List Node) (nA:Int) (mA:Int) (zA:List Rule) (yA:Int) (wA:Int) (bB:List Cnd) (cB:Int) (aB:Int) (cA:List UInt8) (dA:Int) (eA:Int) (fA:Int) (gA:Int) (iA:Int) (jA:List Knot) (kA:Bool) (lA:Int) (xA:Span) (qA:List UInt8) (rA:List Cnd) (pA:List UInt8) (sA:Int) (eB:Cnd):R:=sh9 l0 aA bA vA oA nA mA zA yA wA bB cB aB cA dA eA fA gA iA jA kA lA xA qA rA pA sA eB (f8 k2 k5 k7)
noncomputable def f7 (k2:Y2) (k5:Y5):Nat→Y7
 | 0=>fun _ _ _ _ _ _ _ _ _ _ _ _ _ _ _ _ _ _ _ _ _ _ _ _ _ _ _=>none
 | n+1=>fun l0 aA bA vA oA nA mA zA yA wA bB cB aB cA dA eA fA gA iA jA kA lA xA qA rA pA sA=>sh7 l0 aA bA vA oA nA mA zA yA wA bB cB aB cA dA eA fA gA iA jA kA lA xA qA rA pA sA (f6 k2 k5) (f8 k2 k5 (f7 k2 k5 n)) (f9 k2 k5 (f7 k2 k5 n))
noncomputable def f5 (k2:Y2):Nat→Y5
 | 0=>fun _ _ _ _ _ _ _ _ _ _ _ _ _ _ _ _ _ _ _ _=>none
 | n+1=>fun l0 aA bA vA oA nA mA zA yA wA cA dA eA fA gA iA jA kA lA xA=>sh5 l0 aA bA vA oA nA mA zA yA wA cA dA eA fA gA iA jA kA lA xA (f4 k2) (f7 k2 (f5 k2 n) 100000)
noncomputable def f2:Nat→Y2
 | 0=>fun _ _ _ _ _ _=>none
 | n+1=>fun l0 aA bA oA nA mA=>sh2 l0 aA bA oA nA mA f1 (f5 (f2 n) 100000)
noncomputable def f0 (l:List Rule) (n:Net) (s:List UInt8):R:=sh0 l n s (f2 100000)
theorem T1 (bA):(hid ct1) (fr1 bA)=f1 bA:=by
 refine (congrFun (hid_eq _) _).trans <| (P1 bA).trans ?_
 show _=sh1 bA
 rfl
theorem T3 (KL2:Kont U El) (k2:Y2) (h2:∀ l0 aA bA oA nA mA,KL2 (fr2 l0 aA bA oA nA mA)=k2 l0 aA bA oA nA mA) (l0 aA bA oA nA mA):(hid (ct3 (hid ct1) KL2)) (fr3 l0 aA bA oA nA mA)=f3 k2 l0 aA bA oA nA mA:=by
 refine (congrFun (hid_eq _) _).trans <| (P3 l0 aA bA oA nA mA (hid ct1) KL2).trans ?_
 show _=sh3 l0 aA bA oA nA mA k2
 simp only [h2]
theorem T4 (KL2:Kont U El) (k2:Y2) (h2:∀ l0 aA bA oA nA mA,KL2 (fr2 l0 aA bA oA nA mA)=k2 l0 aA bA oA nA mA) (l0 aA bA vA oA nA mA):(hid (ct4 (hid ct1) (hid (ct3 (hid ct1) KL2)))) (fr4 l0 aA bA vA oA nA mA)=f4 k2 l0 aA bA vA oA nA mA:=by
 refine (congrFun (hid_eq _) _).trans <| (P4 l0 aA bA vA oA nA mA (hid ct1) (hid (ct3 (hid ct1) KL2))).trans ?_
 show _=sh4 l0 aA bA vA oA nA mA (f3 k2)
 simp only [T3 KL2 k2 h2]
theorem T6 (KL2:Kont U El) (KL5:Kont U El) (k2:Y2) (k5:Y5) (h2:∀ l0 aA bA oA nA mA,KL2 (fr2 l0 aA bA oA nA mA)=k2 l0 aA bA oA nA mA) (h5:∀ l0 aA bA vA oA nA mA zA yA wA cA dA eA fA gA iA jA kA lA xA,KL5 (fr5 l0 aA bA vA oA nA mA zA yA wA cA dA eA fA gA iA jA kA lA xA)=k5 l0 aA bA vA oA nA mA zA yA wA cA dA eA fA gA iA jA kA lA xA) (l0 aA bA vA oA nA mA zA yA wA cA dA eA fA gA iA jA kA lA xA):(hid (ct6 (hid ct1) (hid (ct3 (hid ct1) KL2)) (hid (ct4 (hid ct1) (hid (ct3 (hid ct1) KL2)))) KL5)) (fr6 l0 aA bA vA oA nA mA zA yA wA cA dA eA fA gA iA jA kA lA xA)=f6 k2 k5 l0 aA bA vA oA nA mA zA yA wA cA dA eA fA gA iA jA kA lA xA:=by
 refine (congrFun (hid_eq _) _).trans <| (P6 l0 aA bA vA oA nA mA zA yA wA cA dA eA fA gA iA jA kA lA xA (hid ct1) (hid (ct3 (hid ct1) KL2)) (hid (ct4 (hid ct1) (hid (ct3 (hid ct1) KL2)))) KL5).trans ?_
 show _=sh6 l0 aA bA vA oA nA mA zA yA wA cA dA eA fA gA iA jA kA lA xA k5
 simp only [h5]
theorem T8 (KL2:Kont U El) (KL5:Kont U El) (KL7:Kont U El) (k2:Y2) (k5:Y5) (k7:Y7) (h2:∀ l0 aA bA oA nA mA,KL2 (fr2 l0 aA bA oA nA mA)=k2 l0 aA bA oA nA mA) (h5:∀ l0 aA bA vA oA nA mA zA yA wA cA dA eA fA gA iA jA kA lA xA,KL5 (fr5 l0 aA bA vA oA nA mA zA yA wA cA dA eA fA gA iA jA kA lA xA)=k5 l0 aA bA vA oA nA mA zA yA wA cA dA eA fA gA iA jA kA lA xA) (h7:∀ l0 aA bA vA oA nA mA zA yA wA bB cB aB cA dA eA fA gA iA jA kA lA xA qA rA pA sA,KL7 (fr7 l0 aA bA vA oA nA mA zA yA wA bB cB aB cA dA eA fA gA iA jA kA lA xA qA rA pA sA)=k7 l0 aA bA vA oA nA mA zA yA wA bB cB aB cA dA eA fA gA iA jA kA lA xA qA rA pA sA) (l0 aA bA vA oA nA mA zA yA wA bB cB aB cA dA eA fA gA iA jA kA lA xA qA rA pA sA):(hid (ct8 (hid ct1) (hid (ct3 (hid ct1) KL2)) (hid (ct4 (hid ct1) (hid (ct3 (hid ct1) KL2)))) (hid (ct6 (hid ct1) (hid (ct3 (hid ct1) KL2)) (hid (ct4 (hid ct1) (hid (ct3 (hid ct1) KL2)))) KL5)) KL7)) (fr8 l0 aA bA vA oA nA mA zA yA wA bB cB aB cA dA eA fA gA iA jA kA lA xA qA rA pA sA)=f8 k2 k5 k7 l0 aA bA vA oA nA mA zA yA wA bB cB aB cA dA eA fA gA iA jA kA lA xA qA rA pA sA:=by
 refine (congrFun (hid_eq _) _).trans <| (P8 l0 aA bA vA oA nA mA zA yA wA bB cB aB cA dA eA fA gA iA jA kA lA xA qA rA pA sA (hid ct1) (hid (ct3 (hid ct1) KL2)) (hid (ct4 (hid ct1) (hid (ct3 (hid ct1) KL2)))) (hid (ct6 (hid ct1) (hid (ct3 (hid ct1) KL2)) (hid (ct4 (hid ct1) (hid (ct3 (hid ct1) KL2)))) KL5)) KL7).trans ?_
 show _=sh8 l0 aA bA vA oA nA mA zA yA wA bB cB aB cA dA eA fA gA iA jA kA lA xA qA rA pA sA k7
 simp only [h7]
theorem T9 (KL2:Kont U El) (KL5:Kont U El) (KL7:Kont U El) (k2:Y2) (k5:Y5) (k7:Y7) (h2:∀ l0 aA bA oA nA mA,KL2 (fr2 l0 aA bA oA nA mA)=k2 l0 aA bA oA nA mA) (h5:∀ l0 aA bA vA oA nA mA zA yA wA cA dA eA fA gA iA jA kA lA xA,KL5 (fr5 l0 aA bA vA oA nA mA zA yA wA cA dA eA fA gA iA jA kA lA xA)=k5 l0 aA bA vA oA nA mA zA yA wA cA dA eA fA gA iA jA kA lA xA) (h7:∀ l0 aA bA vA oA nA mA zA yA wA bB cB aB cA dA eA fA gA iA jA kA lA xA qA rA pA sA,KL7 (fr7 l0 aA bA vA oA nA mA zA yA wA bB cB aB cA dA eA fA gA iA jA kA lA xA qA rA pA sA)=k7 l0 aA bA vA oA nA mA zA yA wA bB cB aB cA dA eA fA gA iA jA kA lA xA qA rA pA sA) (l0 aA bA vA oA nA mA zA yA wA bB cB aB cA dA eA fA gA iA jA kA lA xA qA rA pA sA eB):(hid (ct9 (hid ct1) (hid (ct3 (hid ct1) KL2)) (hid (ct4 (hid ct1) (hid (ct3 (hid ct1) KL2)))) (hid (ct6 (hid ct1) (hid (ct3 (hid ct1) KL2)) (hid (ct4 (hid ct1) (hid (ct3 (hid ct1) KL2)))) KL5)) (hid (ct8 (hid ct1) (hid (ct3 (hid ct1) KL2)) (hid (ct4 (hid ct1) (hid (ct3 (hid ct1) KL2)))) (hid (ct6 (hid ct1) (hid (ct3 (hid ct1) KL2)) (hid (ct4 (hid ct1) (hid (ct3 (hid ct1) KL2)))) KL5)) KL7)))) (fr9 l0 aA bA vA oA nA mA zA yA wA bB cB aB cA dA eA fA gA iA jA kA lA xA qA rA pA sA eB)=f9 k2 k5 k7 l0 aA bA vA oA nA mA zA yA wA bB cB aB cA dA eA fA gA iA jA kA lA xA qA rA pA sA eB:=by
 refine (congrFun (hid_eq _) _).trans <| (P9 l0 aA bA vA oA nA mA zA yA wA bB cB aB cA dA eA fA gA iA jA kA lA xA qA rA pA sA eB (hid ct1) (hid (ct3 (hid ct1) KL2)) (hid (ct4 (hid ct1) (hid (ct3 (hid ct1) KL2)))) (hid (ct6 (hid ct1) (hid (ct3 (hid ct1) KL2)) (hid (ct4 (hid ct1) (hid (ct3 (hid ct1) KL2)))) KL5)) (hid (ct8 (hid ct1) (hid (ct3 (hid ct1) KL2)) (hid (ct4 (hid ct1) (hid (ct3 (hid ct1) KL2)))) (hid (ct6 (hid ct1) (hid (ct3 (hid ct1) KL2)) (hid (ct4 (hid ct1) (hid (ct3 (hid ct1) KL2)))) KL5)) KL7))).trans ?_
 show _=sh9 l0 aA bA vA oA nA mA zA yA wA bB cB aB cA dA eA fA gA iA jA kA lA xA qA rA pA sA eB (f8 k2 k5 k7)
 simp only [T8 KL2 KL5 KL7 k2 k5 k7 h2 h5 h7]
theorem T7 (KL2:Kont U El) (KL5:Kont U El) (k2:Y2) (k5:Y5) (h2:∀ l0 aA bA oA nA mA,KL2 (fr2 l0 aA bA oA nA mA)=k2 l0 aA bA oA nA mA) (h5:∀ l0 aA bA vA oA nA mA zA yA wA cA dA eA fA gA iA jA kA lA xA,KL5 (fr5 l0 aA bA vA oA nA mA zA yA wA cA dA eA fA gA iA jA kA lA xA)=k5 l0 aA bA vA oA nA mA zA yA wA cA dA eA fA gA iA jA kA lA xA):∀ (n:Nat),∀ l0 aA bA vA oA nA mA zA yA wA bB cB aB cA dA eA fA gA iA jA kA lA xA qA rA pA sA,it7 (hid ct1) (hid (ct3 (hid ct1) KL2)) (hid (ct4 (hid ct1) (hid (ct3 (hid ct1) KL2)))) (hid (ct6 (hid ct1) (hid (ct3 (hid ct1) KL2)) (hid (ct4 (hid ct1) (hid (ct3 (hid ct1) KL2)))) KL5)) n (fr7 l0 aA bA vA oA nA mA zA yA wA bB cB aB cA dA eA fA gA iA jA kA lA xA qA rA pA sA)=f7 k2 k5 n l0 aA bA vA oA nA mA zA yA wA bB cB aB cA dA eA fA gA iA jA kA lA xA qA rA pA sA:=by
  intro n
  induction n with
  | zero=>intros; rfl
  | succ n ih =>
    intro l0 aA bA vA oA nA mA zA yA wA bB cB aB cA dA eA fA gA iA jA kA lA xA qA rA pA sA
    refine (P7 l0 aA bA vA oA nA mA zA yA wA bB cB aB cA dA eA fA gA iA jA kA lA xA qA rA pA sA (hid ct1) (hid (ct3 (hid ct1) KL2)) (hid (ct4 (hid ct1) (hid (ct3 (hid ct1) KL2)))) (hid (ct6 (hid ct1) (hid (ct3 (hid ct1) KL2)) (hid (ct4 (hid ct1) (hid (ct3 (hid ct1) KL2)))) KL5)) (it7 (hid ct1) (hid (ct3 (hid ct1) KL2)) (hid (ct4 (hid ct1) (hid (ct3 (hid ct1) KL2)))) (hid (ct6 (hid ct1) (hid (ct3 (hid ct1) KL2)) (hid (ct4 (hid ct1) (hid (ct3 (hid ct1) KL2)))) KL5)) n)).trans ?_
    show _=sh7 l0 aA bA vA oA nA mA zA yA wA bB cB aB cA dA eA fA gA iA jA kA lA xA qA rA pA sA (f6 k2 k5) (f8 k2 k5 (f7 k2 k5 n)) (f9 k2 k5 (f7 k2 k5 n))
    simp only [T6 KL2 KL5 k2 k5 h2 h5,T8 KL2 KL5 (it7 (hid ct1) (hid (ct3 (hid ct1) KL2)) (hid (ct4 (hid ct1) (hid (ct3 (hid ct1) KL2)))) (hid (ct6 (hid ct1) (hid (ct3 (hid ct1) KL2)) (hid (ct4 (hid ct1) (hid (ct3 (hid ct1) KL2)))) KL5)) n) k2 k5 (f7 k2 k5 n) h2 h5 ih,T9 KL2 KL5 (it7 (hid ct1) (hid (ct3 (hid ct1) KL2)) (hid (ct4 (hid ct1) (hid (ct3 (hid ct1) KL2)))) (hid (ct6 (hid ct1) (hid (ct3 (hid ct1) KL2)) (hid (ct4 (hid ct1) (hid (ct3 (hid ct1) KL2)))) KL5)) n) k2 k5 (f7 k2 k5 n) h2 h5 ih]
theorem H7 (KL2:Kont U El) (KL5:Kont U El) (k2:Y2) (k5:Y5) (h2:∀ l0 aA bA oA nA mA,KL2 (fr2 l0 aA bA oA nA mA)=k2 l0 aA bA oA nA mA) (h5:∀ l0 aA bA vA oA nA mA zA yA wA cA dA eA fA gA iA jA kA lA xA,KL5 (fr5 l0 aA bA vA oA nA mA zA yA wA cA dA eA fA gA iA jA kA lA xA)=k5 l0 aA bA vA oA nA mA zA yA wA cA dA eA fA gA iA jA kA lA xA) (l0 aA bA vA oA nA mA zA yA wA bB cB aB cA dA eA fA gA iA jA kA lA xA qA rA pA sA):hid (it7 (hid ct1) (hid (ct3 (hid ct1) KL2)) (hid (ct4 (hid ct1) (hid (ct3 (hid ct1) KL2)))) (hid (ct6 (hid ct1) (hid (ct3 (hid ct1) KL2)) (hid (ct4 (hid ct1) (hid (ct3 (hid ct1) KL2)))) KL5)) 100000) (fr7 l0 aA bA vA oA nA mA zA yA wA bB cB aB cA dA eA fA gA iA jA kA lA xA qA rA pA sA)=f7 k2 k5 100000 l0 aA bA vA oA nA mA zA yA wA bB cB aB cA dA eA fA gA iA jA kA lA xA qA rA pA sA:=(congrFun (hid_eq _) _).trans (T7 KL2 KL5 k2 k5 h2 h5 100000 l0 aA bA vA oA nA mA zA yA wA bB cB aB cA dA eA fA gA iA jA kA lA xA qA rA pA sA)
theorem T5 (KL2:Kont U El) (k2:Y2) (h2:∀ l0 aA bA oA nA mA,KL2 (fr2 l0 aA bA oA nA mA)=k2 l0 aA bA oA nA mA):∀ (n:Nat),∀ l0 aA bA vA oA nA mA zA yA wA cA dA eA fA gA iA jA kA lA xA,it5 (hid ct1) (hid (ct3 (hid ct1) KL2)) (hid (ct4 (hid ct1) (hid (ct3 (hid ct1) KL2)))) n (fr5 l0 aA bA vA oA nA mA zA yA wA cA dA eA fA gA iA jA kA lA xA)=f5 k2 n l0 aA bA vA oA nA mA zA yA wA cA dA eA fA gA iA jA kA lA xA:=by
  intro n
  induction n with
  | zero=>intros; rfl
  | succ n ih =>
    intro l0 aA bA vA oA nA mA zA yA wA cA dA eA fA gA iA jA kA lA xA
    refine (P5 l0 aA bA vA oA nA mA zA yA wA cA dA eA fA gA iA jA kA lA xA (hid ct1) (hid (ct3 (hid ct1) KL2)) (hid (ct4 (hid ct1) (hid (ct3 (hid ct1) KL2)))) (it5 (hid ct1) (hid (ct3 (hid ct1) KL2)) (hid (ct4 (hid ct1) (hid (ct3 (hid ct1) KL2)))) n)).trans ?_
    show _=sh5 l0 aA bA vA oA nA mA zA yA wA cA dA eA fA gA iA jA kA lA xA (f4 k2) (f7 k2 (f5 k2 n) 100000)
    simp only [T4 KL2 k2 h2,H7 KL2 (it5 (hid ct1) (hid (ct3 (hid ct1) KL2)) (hid (ct4 (hid ct1) (hid (ct3 (hid ct1) KL2)))) n) k2 (f5 k2 n) h2 ih]
theorem H5 (KL2:Kont U El) (k2:Y2) (h2:∀ l0 aA bA oA nA mA,KL2 (fr2 l0 aA bA oA nA mA)=k2 l0 aA bA oA nA mA) (l0 aA bA vA oA nA mA zA yA wA cA dA eA fA gA iA jA kA lA xA):hid (it5 (hid ct1) (hid (ct3 (hid ct1) KL2)) (hid (ct4 (hid ct1) (hid (ct3 (hid ct1) KL2)))) 100000) (fr5 l0 aA bA vA oA nA mA zA yA wA cA dA eA fA gA iA jA kA lA xA)=f5 k2 100000 l0 aA bA vA oA nA mA zA yA wA cA dA eA fA gA iA jA kA lA xA:=(congrFun (hid_eq _) _).trans (T5 KL2 k2 h2 100000 l0 aA bA vA oA nA mA zA yA wA cA dA eA fA gA iA jA kA lA xA)
theorem T2:∀ (n:Nat),∀ l0 aA bA oA nA mA,it2 (hid ct1) n (fr2 l0 aA bA oA nA mA)=f2 n l0 aA bA oA nA mA:=by
  intro n
  induction n with
  | zero=>intros; rfl
  | succ n ih =>
    intro l0 aA bA oA nA mA
    refine (P2 l0 aA bA oA nA mA (hid ct1) (it2 (hid ct1) n)).trans ?_
    show _=sh2 l0 aA bA oA nA mA f1 (f5 (f2 n) 100000)
    simp only [T1,H5 (it2 (hid ct1) n) (f2 n) ih]
theorem H2 (l0 aA bA oA nA mA):hid (it2 (hid ct1) 100000) (fr2 l0 aA bA oA nA mA)=f2 100000 l0 aA bA oA nA mA:=(congrFun (hid_eq _) _).trans (T2 100000 l0 aA bA oA nA mA)
theorem T0 (l n s):exec X bd (.seq none .d (.seq none .d (.seq (some nm1) (.seq none .d (.block (.loop nm2 (.seq none .d (.seq none .d (.seq (some nm3) (.block (.seq none .d (.seq none .d (.seq none .d (.seq (some nm4) (.seq none .d (.block (.loop nm5 (.seq none .d (.seq none .d (.seq (some nm6) (.block (.seq none .d (.seq none .d (.block (.loop nm7 (.seq none .d (.seq none .d (.seq (some nm8) (.block (.seq none .d (.seq (some nm9) .d .d))) .d)))))))) .d)))))) .d))))) .d)))))) .d))) (fr0 l n s) RR (fun _ _=>none) RR=f0 l n s:=by
 refine (P0 l n s).trans ?_
 show _=sh0 l n s (f2 100000)
 simp only [H2]
theorem run (l n s):runFn X bd (.seq none .d (.seq none .d (.seq (some nm1) (.seq none .d (.block (.loop nm2 (.seq none .d (.seq none .d (.seq (some nm3) (.block (.seq none .d (.seq none .d (.seq none .d (.seq (some nm4) (.seq none .d (.block (.loop nm5 (.seq none .d (.seq none .d (.seq (some nm6) (.block (.seq none .d (.seq none .d (.block (.loop nm7 (.seq none .d (.seq none .d (.seq (some nm8) (.block (.seq none .d (.seq (some nm9) .d .d))) .d)))))))) .d)))))) .d))))) .d)))))) .d))) nmR [6] [6] [(.lst .rule l),(.agg [(.lst .node n.nds),(.lst .link n.lks)]),(.str s)]=f0 l n s:=T0 l n s
abbrev K5:=List Rule→List UInt8→List (List Int)→List Int→List Node→Int→Int→List Rule→Int→Int→List UInt8→Int→Int→Int→Int→Int→List Knot→Bool→Int→Span→R
theorem in7 (k2 : List Rule → List UInt8 → List (List Int) → List Node → Int → Int → R) (k5 : K5) (l : List Rule) (s : List UInt8) (out : List (List Int)) (nds : List Node) (nA mA yA wA : Int) (x : Node) (r : Rule) (hr : r.rw.length ≤ 20) : ∀ (n j : Nat) (m : List Int), r.rw.length < n + j → j ≤ r.rw.length → m.length + 2 * (r.rw.length - j) ≤ 100000 →
    f7 k2 k5 n l s out m nds nA mA l yA wA r.rw (Int.ofNat r.rw.length) (j:Int) x.nn x.nk x.nx x.ny x.ni x.ng x.nh x.np x.nr (possS x) r.rn r.rw r.rl r.rs=f6 k2 k5 l s out (m++(r.rw.drop j).flatMap (markC x s r)) nds nA mA l yA wA x.nn x.nk x.nx x.ny x.ni x.ng x.nh x.np x.nr (possS x):=by
  intro n
  induction n with
  | zero=>intro j m h1 h2; omega
  | succ n ih =>
    intro j m h1 h2 h3
    show sh7 l s out m nds nA mA l yA wA r.rw (Int.ofNat r.rw.length) (j:Int) x.nn x.nk x.nx x.ny x.ni x.ng x.nh x.np x.nr (possS x) r.rn r.rw r.rl r.rs (f6 k2 k5) (f8 k2 k5 (f7 k2 k5 n)) (f9 k2 k5 (f7 k2 k5 n))=_
    unfold sh7
    by_cases hj:j < r.rw.length
    · have hk : ∀ m' : List Int, m'.length ≤ m.length + 2 → f8 k2 k5 (f7 k2 k5 n) l s out m' nds nA mA l yA wA r.rw (Int.ofNat r.rw.length) (j : Int) x.nn x.nk x.nx x.ny x.ni x.ng x.nh x.np x.nr (possS x) r.rn r.rw r.rl r.rs = f6 k2 k5 l s out (m' ++ (r.rw.drop (j + 1)).flatMap (markC x s r)) nds nA mA l yA wA x.nn x.nk x.nx x.ny x.ni x.ng x.nh x.np x.nr (possS x) := fun m' hm => by
        show f7 k2 k5 n l s out m' nds nA mA l yA wA r.rw (Int.ofNat r.rw.length) (IntKind.wrap .i64 ((j:Int)+1)) x.nn x.nk x.nx x.ny x.ni x.ng x.nh x.np x.nr (possS x) r.rn r.rw r.rl r.rs=_
        rw [wrapS j (by omega)]
        exact ih (j+1) m' (by omega) hj (by omega)
      rw [iltT (by simp; omega),inbT hj,toNat_nat,getD_lt hj,drop_lt hj,List.flatMap_cons,hk m (by omega)]
      have h9:f9 k2 k5 (f7 k2 k5 n) l s out m nds nA mA l yA wA r.rw (Int.ofNat r.rw.length) (j:Int) x.nn x.nk x.nx x.ny x.ni x.ng x.nh x.np x.nr (possS x) r.rn r.rw r.rl r.rs r.rw[j] =
          f6 k2 k5 l s out (m++((bif ilt (possS x).slo r.rw[j].cl&&ile r.rw[j].cl (possS x).shi then [(possS x).slo,r.rw[j].cl] else [(possS x).slo])++(r.rw.drop (j+1)).flatMap (markC x s r))) nds nA mA l yA wA x.nn x.nk x.nx x.ny x.ni x.ng x.nh x.np x.nr (possS x):=by
        show sh9 l s out m nds nA mA l yA wA r.rw (Int.ofNat r.rw.length) (j:Int) x.nn x.nk x.nx x.ny x.ni x.ng x.nh x.np x.nr (possS x) r.rn r.rw r.rl r.rs r.rw[j] (f8 k2 k5 (f7 k2 k5 n))=_
        unfold sh9
        rw [hk (m++[(possS x).slo]) (by simp),hk ((m++[(possS x).slo])++[r.rw[j].cl]) (by simp)]
        rw [nleT (show (m.length+([(possS x).slo]:List Int).length) * 8≤140737488355328 by simp; omega),nleT (show m.length+([(possS x).slo]:List Int).length≤9223372036854775807 by simp; omega),nleT (show _≤140737488355328 by simp; omega),nleT (show _≤9223372036854775807 by simp; omega)]
        simp only [chkT,Bool.and_true]
        cases ilt (possS x).slo r.rw[j].cl<;>cases ile r.rw[j].cl (possS x).shi<;>simp only [condT,condF,Bool.and_true,Bool.and_false,cond_true,cond_false,List.append_assoc,List.singleton_append,List.cons_append,List.nil_append,Bool.false_and,Bool.true_and]
      rw [h9]
      simp only [chkT,condT]
      unfold markC
      cases r.rl == s
      · rfl
      · cases r.rw[j].cn == x.nn<;>rfl
    · have : j = r.rw.length := by omega
      subst this
      rw [iltF (by simp),List.drop_length,List.flatMap_nil,List.append_nil]
      rfl
theorem in5 (k2:List Rule→List UInt8→List (List Int)→List Node→Int→Int→R) (l:List Rule) (hr:∀ r∈l,r.rw.length≤20) (hl:l.length≤60) (s:List UInt8) (out:List (List Int)) (nds:List Node) (nA mA:Int) (x:Node):∀ (n i:Nat) (m:List Int),l.length < n+i→i≤l.length→m.length≤40 * i →
    f5 k2 n l s out m nds nA mA l (Int.ofNat l.length) (i:Int) x.nn x.nk x.nx x.ny x.ni x.ng x.nh x.np x.nr (possS x)=f4 k2 l s out (m++rawM x s (l.drop i)) nds nA mA:=by
  intro n
  induction n with
  | zero=>intro i m h1 h2; omega
  | succ n ih =>
    intro i m h1 h2 h3
    show sh5 l s out m nds nA mA l (Int.ofNat l.length) (i:Int) x.nn x.nk x.nx x.ny x.ni x.ng x.nh x.np x.nr (possS x) (f4 k2) (f7 k2 (f5 k2 n) 100000)=_
    unfold sh5
    by_cases hi:i < l.length
    · have hri := hr _ (List.getElem_mem hi)
      have e:=in7 k2 (f5 k2 n) l s out nds nA mA (Int.ofNat l.length) (i:Int) x l[i] hri 100000 0 m (by omega) (by omega) (by omega)
      rw [iltT (by simp; omega),inbT hi,toNat_nat,getD_lt hi,drop_lt hi]
      rw [show ((0:Int))=((0:Nat):Int) from rfl,e,List.drop_zero]
      show f5 k2 n l s out (m++rawR x s l[i]) nds nA mA l (Int.ofNat l.length) (IntKind.wrap .i64 ((i:Int)+1)) x.nn x.nk x.nx x.ny x.ni x.ng x.nh x.np x.nr (possS x)=_
      have:=rawR_len x s l[i]
      rw [wrapS i (by omega),ih (i+1) _ (by omega) hi (by simp; omega),List.append_assoc]
      rfl
    · have : i = l.length := by omega
      subst this
      rw [iltF (by simp),List.drop_length]
      show f4 k2 l s out m nds nA mA=f4 k2 l s out (m++[]) nds nA mA
      rw [List.append_nil]
theorem loop (l:List Rule) (hr:∀ r∈l,r.rw.length≤20) (hl:l.length≤60) (s:List UInt8) (nds:List Node) (hn:nds.length≤90000):∀ (n i:Nat) (out:List (List Int)),nds.length < n+i→i≤nds.length→out.length=i →
    f2 n l s out nds (Int.ofNat nds.length) (i:Int)=some (.ful 0,[(0,.rows .ints (out++(nds.drop i).map fun x=>compactL (sortI (rawM x s l))))]):=by
  intro n
  induction n with
  | zero=>intro i out h1 h2; omega
  | succ n ih =>
    intro i out h1 h2 h3
    show sh2 l s out nds (Int.ofNat nds.length) (i:Int) f1 (f5 (f2 n) 100000)=_
    unfold sh2
    by_cases hi:i < nds.length
    · have e := in5 (f2 n) l hr hl s out nds (Int.ofNat nds.length) (i : Int) nds[i] 100000 0 [] (by omega) (by omega) (by simp)
      rw [iltT (by simp; omega),inbT hi,toNat_nat,getD_lt hi,drop_lt hi]
      rw [show ((0:Int))=((0:Nat):Int) from rfl,e,List.drop_zero,List.nil_append]
      show sh4 l s out (rawM nds[i] s l) nds (Int.ofNat nds.length) (i:Int) (f3 (f2 n))=_
      unfold sh4
      have h4:=rawM_len nds[i] s l hr
      have h5:(sortI (rawM nds[i] s l)).length=(rawM nds[i] s l).length:=List.length_mergeSort _
      rw [nleT (show (rawM nds[i] s l).length≤100000 by omega),nleT (show (sortI (rawM nds[i] s l)).length≤4000 by omega),nleT (show _≤140737488355328 by simp; omega),nleT (show _≤9223372036854775807 by simp; omega)]
      show f2 n l s (out++[compactL (sortI (rawM nds[i] s l))]) nds (Int.ofNat nds.length) (IntKind.wrap .i64 ((i:Int)+1))=_
      rw [wrapS i (by omega),ih (i+1) _ (by omega) hi (by simp; omega)]
      simp only [List.map_cons,List.append_assoc,List.singleton_append]
    · have : i = nds.length := by omega
      subst this
      rw [iltF (by simp),List.drop_length,List.map_nil,List.append_nil]
      rfl
theorem f0_eq (l:List Rule) (n:Net) (s:List UInt8) (h:(okN n&&rulesB l)=true):f0 l n s=some (.ful 0,[(0,.rows .ints (marksC l n s))]):=by
 simp only [Bool.and_eq_true] at h
 obtain ⟨h1,h2⟩:=rulesB_len h.2
 have hn:=nleI (okN_nds h.1)
 exact loop l (fun r hr=>(ruleB_len (h2 r hr)).1) h1 s n.nds hn 100000 0 [] (by omega) (by omega) rfl
theorem ok:CtxOk Tryz.prog X:=ctxOk tab (spC possible.spOk spN) dpN
theorem okM:MOk Tryz.prog X:=mspecOf_ok _ (mpC (sortIOk rfl ok) (mpC (mcSp_ok ok compactI.spOk) mpN))
theorem spec (l:List Rule) (n:Net) (s:List UInt8) (h:((okN n&&rulesB l))=true):CallSpec Tryz.prog E 119 [(.lst .rule l),(.agg [(.lst .node n.nds),(.lst .link n.lks)]),(.str s)] (.ful 0) [(0,.rows .ints (marksC l n s))] :=
 rfs ok okM Tryz.call119 Tryz.func119 ((run l n s).trans (f0_eq l n s h))
noncomputable def sp:Sp U El:=fun args k=>match args with
 | [.lst .rule l,.agg [.lst .node n_nds,.lst .link n_lks],.str s]=>chk ((okN (⟨n_nds,n_lks⟩:Net)&&rulesB l)) (k (.ful 0) [(0,.rows .ints (marksC l (⟨n_nds,n_lks⟩:Net) s))])
 | _=>none
theorem spOk:SpOk Tryz.prog E 119 sp:=⟨fun vs=>by unfold sp;split;exact det_c _ _ _;exact ⟨none,fun _=>rfl⟩,fun vs k r h=>by unfold sp at h;split at h;(obtain ⟨h1,h2⟩:=chk_some h;exact ⟨_,_,spec _ ⟨_,_⟩ _ h1,h2⟩);cases h⟩
end marks
end Go.Proofs.YthdimnlkcgchoaaGreat
