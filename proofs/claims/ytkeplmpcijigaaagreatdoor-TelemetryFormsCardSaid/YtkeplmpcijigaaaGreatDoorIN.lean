/- The document's readers of ints and spans. -/
import Derived.Test.YtkeplmpcijigaaaGreatDoorSP
import Derived.Laws.BitsLemmas
namespace Go.Proofs.YtkeplmpcijigaaaGreatDoor
set_option linter.unusedSectionVars false
set_option linter.unusedSimpArgs false
set_option linter.unusedVariables false
set_option maxRecDepth 100000
noncomputable def outI2 (v:Int) (b:Bool):R:=some ((.tup [(.int .i64 v),(.bool b)]),[])
noncomputable def dashB (s:List UInt8):Bool:=(Int.ofNat (UInt8.toNat (List.getD s 0 0))) == (45:Int)
def GoodI (s:List UInt8) (v:Int) (b:Bool):Prop:=b=true→(-144115188075855872≤v∧v≤144115188075855872)∧s=Lib.itoa v
theorem decFrom_le:∀ (l:List UInt8) (acc v:Nat),Lib.decFrom acc l=some v→acc≤v:=by
  intro l
  induction l with
  | nil=>intro acc v h; cases h; exact Nat.le_refl _
  | cons b l ih =>
    intro acc v h
    simp only [Lib.decFrom] at h
    cases hd:Lib.digitVal b with
    | none=>rw [hd] at h; cases h
    | some d =>
      rw [hd] at h
      have:=ih _ _ h
      omega
theorem wrap_digit {c:Int} (h0:48≤c) (h1:c≤57):IntKind.wrap .i64 (IntKind.wrap .u8 (c - (48:Int)))=c - 48:=by
  rw [IntKind.wrap_u8,show (c - 48)%256=c - 48 by omega,wrapI (by omega) (by omega)]
namespace rint
noncomputable def bd:Code:=(Tryz.f70.body).getD .skip
noncomputable def X:Ctx U El:=⟨E,tds,zeros,eqs,specOf [(31,dec4.sp)],100000,64,dspecOf [],fun _=>none⟩
noncomputable def nmR:Norm U:=⟨[],[2,3],[],[],[],[],[]⟩
noncomputable def RR:Kont U El:=fun st=>normK nmR st (retFin [2,3] [])
noncomputable def nm1:Norm U:=⟨[],[0,4],[],[],[],[],[]⟩
noncomputable def nm2:Norm U:=⟨[],[0,4,5],[],[],[],[],[]⟩
noncomputable def nm3:Norm U:=⟨[],[0,4,5],[],[],[],[],[]⟩
noncomputable def nm4:Norm U:=⟨[],[0,4,5],[],[],[],[],[]⟩
noncomputable def nm5:Norm U:=⟨[],[0,4,5],[],[],[],[],[]⟩
noncomputable def nm6:Norm U:=⟨[],[0,4],[],[],[],[],[]⟩
abbrev Y1:=(List UInt8)→Int→R
abbrev Y2:=(List UInt8)→Int→Int→R
abbrev Y3:=(List UInt8)→Int→Int→R
abbrev Y4:=(List UInt8)→Int→Int→R
abbrev Y5:=(List UInt8)→Int→Int→R
abbrev Y6:=(List UInt8)→Int→R
noncomputable def fr0 (s:List UInt8):St U El:=⟨[(0,(.str s))],[]⟩
noncomputable def fr1 (s0:List UInt8) (n4:Int):St U El:=⟨[(0,(.str s0)),(4,(.int .i64 n4))],[]⟩
noncomputable def fr2 (s0:List UInt8) (n4:Int) (i5:Int):St U El:=⟨[(0,(.str s0)),(4,(.int .i64 n4)),(5,(.int .i64 i5))],[]⟩
noncomputable def fr3 (s0:List UInt8) (n4:Int) (i5:Int):St U El:=⟨[(0,(.str s0)),(4,(.int .i64 n4)),(5,(.int .i64 i5))],[]⟩
noncomputable def fr4 (s0:List UInt8) (n4:Int) (i5:Int):St U El:=⟨[(0,(.str s0)),(4,(.int .i64 n4)),(5,(.int .i64 i5))],[]⟩
noncomputable def fr5 (s0:List UInt8) (n4:Int) (i5:Int):St U El:=⟨[(0,(.str s0)),(4,(.int .i64 n4)),(5,(.int .i64 i5))],[]⟩
noncomputable def fr6 (s0:List UInt8) (n4:Int):St U El:=⟨[(0,(.str s0)),(4,(.int .i64 n4))],[]⟩
noncomputable def sh0 (s:List UInt8) (k2:Y2):R :=
  k2 s (0:Int) (0:Int)
noncomputable def sh1 (s0:List UInt8) (n4:Int) (k6:Y6):R :=
  condB (ilt (0:Int) (Int.ofNat (List.length s0))) (chk (inb (0:Int) (List.length s0)) (condB ((Int.ofNat (UInt8.toNat (List.getD s0 0 0))) == (45:Int)) (k6 s0 (IntKind.wrap .i64 ((0:Int) - n4))) (k6 s0 n4))) (k6 s0 n4)
noncomputable def sh2 (s0:List UInt8) (n4:Int) (i5:Int) (k1:Y1) (k3:Y3) (k4:Y4):R :=
  condB (ilt i5 (Int.ofNat (List.length s0))) (condB (i5 == (0:Int)) (chk (inb (0:Int) (List.length s0)) (condB ((Int.ofNat (UInt8.toNat (List.getD s0 0 0))) == (45:Int)) (k3 s0 n4 i5) (k4 s0 n4 i5))) (k4 s0 n4 i5)) (k1 s0 n4)
noncomputable def sh3 (s0:List UInt8) (n4:Int) (i5:Int) (k2:Y2):R :=
  k2 s0 n4 (IntKind.wrap .i64 (i5+(1:Int)))
noncomputable def sh4 (s0:List UInt8) (n4:Int) (i5:Int) (k5:Y5):R :=
  chk (inb i5 (List.length s0)) (condB (ilt (Int.ofNat (UInt8.toNat (List.getD s0 (Int.toNat i5) 0))) (48:Int)) (some ((.tup [(.int .i64 (0:Int)),(.bool false)]),[])) (chk (inb i5 (List.length s0)) (condB (ilt (57:Int) (Int.ofNat (UInt8.toNat (List.getD s0 (Int.toNat i5) 0)))) (some ((.tup [(.int .i64 (0:Int)),(.bool false)]),[])) (condB (ilt (144115188075855872:Int) n4) (some ((.tup [(.int .i64 (0:Int)),(.bool false)]),[])) (k5 s0 n4 i5)))))
noncomputable def sh5 (s0:List UInt8) (n4:Int) (i5:Int) (k3:Y3):R :=
  chk (inb i5 (List.length s0)) (k3 s0 (IntKind.wrap .i64 ((IntKind.wrap .i64 (n4 * (10:Int)))+(IntKind.wrap .i64 (IntKind.wrap .u8 ((Int.ofNat (UInt8.toNat (List.getD s0 (Int.toNat i5) 0))) - (48:Int)))))) i5)
noncomputable def sh6 (s0:List UInt8) (n4:Int):R :=
  condB (ile n4 (144115188075855872:Int)) (condB (ile (-144115188075855872:Int) n4) (chk ((ile (-1000000000000000000) n4&&ile n4 1000000000000000000)) (some ((.tup [(.int .i64 n4),(.bool ((Lib.itoa n4) == s0))]),[]))) (some ((.tup [(.int .i64 n4),(.bool false)]),[]))) (some ((.tup [(.int .i64 n4),(.bool false)]),[]))
noncomputable def it2 (Kb1:Kont U El) (n:Nat):Kont U El:=iter nm2 (fun st' K'=>exec X (cdp [1,1,0,1,0,0] bd) (.seq none .d (.seq (some nm3) (.block (.seq (some nm4) .d (.seq (some nm5) .d .d))) .d)) st' K' (Eblk 0 (cutK nm1 Kb1) (fun _ _=>none)) RR) n
noncomputable def ct1:Kont U El:=fun st=>exec X (cdp [1,1,1] bd) (.seq (some nm6) .d .d) st RR (fun _ _=>none) RR
noncomputable def ct3 (Kb1 Kb2:Kont U El):Kont U El:=fun st=>exec X (cdp [1,1,0,1,0,0,1,1] bd) .d st (cutK nm2 Kb2) (Eblk 0 (cutK nm1 Kb1) (fun _ _=>none)) RR
noncomputable def ct4 (Kb1 Kb3:Kont U El):Kont U El:=fun st=>exec X (cdp [1,1,0,1,0,0,1,0,0,1] bd) (.seq (some nm5) .d .d) st (cutK nm3 Kb3) (Eblk 1 (cutK nm3 Kb3) (Eblk 0 (cutK nm1 Kb1) (fun _ _=>none))) RR
noncomputable def ct5 (Kb1 Kb3:Kont U El):Kont U El:=fun st=>exec X (cdp [1,1,0,1,0,0,1,0,0,1,1] bd) .d st (cutK nm3 Kb3) (Eblk 1 (cutK nm3 Kb3) (Eblk 0 (cutK nm1 Kb1) (fun _ _=>none))) RR
noncomputable def ct6:Kont U El:=fun st=>exec X (cdp [1,1,1,1] bd) .d st RR (fun _ _=>none) RR
theorem P0 (s):exec X (cdp [] bd) (.seq none .d (.seq none .d (.seq (some nm1) (.seq none .d (.block (.loop nm2 (.seq none .d (.seq (some nm3) (.block (.seq (some nm4) .d (.seq (some nm5) .d .d))) .d))))) (.seq (some nm6) .d .d)))) (fr0 s) RR (fun _ _=>none) RR=sh0 s (fun y0 y1 y2=>(hid (it2 (hid ct1) 100000)) (fr2 y0 y1 y2)):=by kernel_rfl
theorem P1 (s0 n4):ct1 (fr1 s0 n4)=sh1 s0 n4 (fun y0 y1=>(hid ct6) (fr6 y0 y1)):=by kernel_rfl
theorem P2 (s0 n4 i5) (Kb1 Kb2:Kont U El):exec X (cdp [1,1,0,1,0,0] bd) (.seq none .d (.seq (some nm3) (.block (.seq (some nm4) .d (.seq (some nm5) .d .d))) .d)) (fr2 s0 n4 i5) (cutK nm2 Kb2) (Eblk 0 (cutK nm1 Kb1) (fun _ _=>none)) RR=sh2 s0 n4 i5 (fun y0 y1=>Kb1 (fr1 y0 y1)) (fun y0 y1 y2=>(hid (ct3 Kb1 Kb2)) (fr3 y0 y1 y2)) (fun y0 y1 y2=>(hid (ct4 Kb1 (hid (ct3 Kb1 Kb2)))) (fr4 y0 y1 y2)):=by kernel_rfl
theorem P3 (s0 n4 i5) (Kb1 Kb2:Kont U El):ct3 Kb1 Kb2 (fr3 s0 n4 i5)=sh3 s0 n4 i5 (fun y0 y1 y2=>Kb2 (fr2 y0 y1 y2)):=by kernel_rfl
theorem P4 (s0 n4 i5) (Kb1 Kb3:Kont U El):ct4 Kb1 Kb3 (fr4 s0 n4 i5)=sh4 s0 n4 i5 (fun y0 y1 y2=>(hid (ct5 Kb1 Kb3)) (fr5 y0 y1 y2)):=by kernel_rfl
theorem P5 (s0 n4 i5) (Kb1 Kb3:Kont U El):ct5 Kb1 Kb3 (fr5 s0 n4 i5)=sh5 s0 n4 i5 (fun y0 y1 y2=>Kb3 (fr3 y0 y1 y2)):=by kernel_rfl
theorem P6 (s0 n4):ct6 (fr6 s0 n4)=sh6 s0 n4:=by kernel_rfl
noncomputable def f6 (s0:List UInt8) (n4:Int):R:=sh6 s0 n4
noncomputable def f1 (s0:List UInt8) (n4:Int):R:=sh1 s0 n4 f6
noncomputable def f3 (k2:Y2) (s0:List UInt8) (n4:Int) (i5:Int):R:=sh3 s0 n4 i5 k2
noncomputable def f5 (k2:Y2) (s0:List UInt8) (n4:Int) (i5:Int):R:=sh5 s0 n4 i5 (f3 k2)
noncomputable def f4 (k2:Y2) (s0:List UInt8) (n4:Int) (i5:Int):R:=sh4 s0 n4 i5 (f5 k2)
noncomputable def f2:Nat→Y2
  | 0=>fun _ _ _=>none
  | n+1=>fun s0 n4 i5=>sh2 s0 n4 i5 f1 (f3 (f2 n)) (f4 (f2 n))
noncomputable def f0 (s:List UInt8):R:=sh0 s (f2 100000)
theorem T6 (s0 n4):(hid ct6) (fr6 s0 n4)=f6 s0 n4:=by
  refine (congrFun (hid_eq _) _).trans <| (P6 s0 n4).trans ?_
  show _=sh6 s0 n4
  rfl
theorem T1 (s0 n4):(hid ct1) (fr1 s0 n4)=f1 s0 n4:=by
  refine (congrFun (hid_eq _) _).trans <| (P1 s0 n4).trans ?_
  show _=sh1 s0 n4 f6
  simp only [T6]
theorem T3 (KL2:Kont U El) (k2:Y2) (h2:∀ s0 n4 i5,KL2 (fr2 s0 n4 i5)=k2 s0 n4 i5) (s0 n4 i5):(hid (ct3 (hid ct1) KL2)) (fr3 s0 n4 i5)=f3 k2 s0 n4 i5:=by
  refine (congrFun (hid_eq _) _).trans <| (P3 s0 n4 i5 (hid ct1) KL2).trans ?_
  show _=sh3 s0 n4 i5 k2
  simp only [h2]
theorem T5 (KL2:Kont U El) (k2:Y2) (h2:∀ s0 n4 i5,KL2 (fr2 s0 n4 i5)=k2 s0 n4 i5) (s0 n4 i5):(hid (ct5 (hid ct1) (hid (ct3 (hid ct1) KL2)))) (fr5 s0 n4 i5)=f5 k2 s0 n4 i5:=by
  refine (congrFun (hid_eq _) _).trans <| (P5 s0 n4 i5 (hid ct1) (hid (ct3 (hid ct1) KL2))).trans ?_
  show _=sh5 s0 n4 i5 (f3 k2)
  simp only [T3 KL2 k2 h2]
theorem T4 (KL2:Kont U El) (k2:Y2) (h2:∀ s0 n4 i5,KL2 (fr2 s0 n4 i5)=k2 s0 n4 i5) (s0 n4 i5):(hid (ct4 (hid ct1) (hid (ct3 (hid ct1) KL2)))) (fr4 s0 n4 i5)=f4 k2 s0 n4 i5:=by
  refine (congrFun (hid_eq _) _).trans <| (P4 s0 n4 i5 (hid ct1) (hid (ct3 (hid ct1) KL2))).trans ?_
  show _=sh4 s0 n4 i5 (f5 k2)
  simp only [T5 KL2 k2 h2]
theorem T2:∀ (n:Nat),∀ s0 n4 i5,it2 (hid ct1) n (fr2 s0 n4 i5)=f2 n s0 n4 i5:=by
  intro n
  induction n with
  | zero=>intros; rfl
  | succ n ih =>
    intro s0 n4 i5
    refine (P2 s0 n4 i5 (hid ct1) (it2 (hid ct1) n)).trans ?_
    show _=sh2 s0 n4 i5 f1 (f3 (f2 n)) (f4 (f2 n))
    simp only [T1,T3 (it2 (hid ct1) n) (f2 n) ih,T4 (it2 (hid ct1) n) (f2 n) ih]
theorem H2 (s0 n4 i5):hid (it2 (hid ct1) 100000) (fr2 s0 n4 i5)=f2 100000 s0 n4 i5:=(congrFun (hid_eq _) _).trans (T2 100000 s0 n4 i5)
theorem T0 (s):exec X bd (.seq none .d (.seq none .d (.seq (some nm1) (.seq none .d (.block (.loop nm2 (.seq none .d (.seq (some nm3) (.block (.seq (some nm4) .d (.seq (some nm5) .d .d))) .d))))) (.seq (some nm6) .d .d)))) (fr0 s) RR (fun _ _=>none) RR=f0 s:=by
  refine (P0 s).trans ?_
  show _=sh0 s (f2 100000)
  simp only [H2]
theorem run (s):runFn X bd (.seq none .d (.seq none .d (.seq (some nm1) (.seq none .d (.block (.loop nm2 (.seq none .d (.seq (some nm3) (.block (.seq (some nm4) .d (.seq (some nm5) .d .d))) .d))))) (.seq (some nm6) .d .d)))) nmR [2,3] [] [(.str s)]=f0 s:=T0 s
theorem f6_eq (s:List UInt8) (n:Int):f6 s n=outI2 n (ile n 144115188075855872&&(ile (-144115188075855872) n&&(Lib.itoa n == s))):=by
  show sh6 s n=_
  unfold sh6
  by_cases h1:n≤144115188075855872
  · rw [ileT h1]
    by_cases h2 : -144115188075855872≤n
    · rw [ileT h2, ileT (show -1000000000000000000 ≤ n by omega), ileT (show n ≤ 1000000000000000000 by omega)]
      cases Lib.itoa n == s<;>rfl
    · rw [ileF h2]; rfl
  · rw [ileF h1]; rfl
theorem good6 (s:List UInt8) (n:Int):GoodI s n (ile n 144115188075855872&&(ile (-144115188075855872) n&&(Lib.itoa n == s))):=fun h=>by
  simp only [Bool.and_eq_true] at h
  exact ⟨⟨ileI h.2.1,ileI h.1⟩,(beq_iff_eq.1 h.2.2).symm⟩
theorem f1_eq (s:List UInt8) (n:Int):f1 s n=f6 s (bif ilt 0 (Int.ofNat s.length)&&dashB s then IntKind.wrap .i64 ((0:Int) - n) else n):=by
  show sh1 s n f6=_
  unfold sh1
  cases hs:s with
  | nil=>rfl
  | cons a l =>
    rw [iltT (show (0:Int) < Int.ofNat (a :: l).length by simp),inb0 (by simp),Bool.true_and]
    show condB (dashB (a :: l)) _ _=_
    cases dashB (a :: l)<;>rfl
theorem any (s : List UInt8) (hl : s.length ≤ 90000) : ∀ (k i : Nat) (n : Int), s.length < k + i → i ≤ s.length → 0 ≤ n → n ≤ 2000000000000000000 → ∃ v b, f2 k s n (i : Int) = outI2 v b ∧ GoodI s v b := by
  intro k
  induction k with
  | zero=>intro i n h1 h2; omega
  | succ k ih =>
    intro i n h1 h2 h3 h4
    have rej:∃ v b,(some ((.tup [(.int .i64 (0:Int)),(.bool false)]),[]):R)=outI2 v b∧GoodI s v b:=⟨0,false,rfl,fun h=>by cases h⟩
    show ∃ v b,sh2 s n (i:Int) f1 (f3 (f2 k)) (f4 (f2 k))=outI2 v b∧_
    unfold sh2
    by_cases hi:i < s.length
    · rw [iltT (by simp; omega), condT]
      have next:∀ m:Int,0≤m→m≤2000000000000000000→∃ v b,f3 (f2 k) s m (i:Int)=outI2 v b∧GoodI s v b:=fun m a b=>by
        have:=ih (i+1) m (by omega) hi a b
        show ∃ v b,f2 k s m (IntKind.wrap .i64 ((i:Int)+1))=outI2 v b∧_
        rw [wrapS i (by omega)]
        exact this
      have dig:∃ v b,f4 (f2 k) s n (i:Int)=outI2 v b∧GoodI s v b:=by
        show ∃ v b,sh4 s n (i:Int) (f5 (f2 k))=outI2 v b∧_
        unfold sh4
        rw [inbT hi,chkT,chkT]
        generalize hc:Int.ofNat (UInt8.toNat (List.getD s (Int.toNat (i:Int)) 0))=c
        by_cases c1:c < 48
        · rw [iltT c1]; exact rej
        · rw [iltF c1, condF]
          by_cases c2:57 < c
          · rw [iltT c2]; exact rej
          · rw [iltF c2, condF]
            by_cases c3:144115188075855872 < n
            · rw [iltT c3]; exact rej
            · rw [iltF c3, condF]
              show ∃ v b,sh5 s n (i:Int) (f3 (f2 k))=outI2 v b∧_
              unfold sh5
              rw [inbT hi,chkT,hc,wrap_digit (by omega) (by omega),wrapI (x:=n * 10) (by omega) (by omega),wrapI (by omega) (by omega)]
              exact next _ (by omega) (by omega)
      by_cases h0:i=0
      · subst h0
        rw [show (((0:Nat):Int) == (0:Int))=true from rfl,condT,inb0 hi,chkT]
        cases (Int.ofNat (UInt8.toNat (List.getD s 0 0))) == (45:Int) with
        | true=>exact next n h3 h4
        | false=>exact dig
      · rw [show ((i : Int) == (0 : Int)) = false from beq_eq_false_iff_ne.2 (by omega), condF]
        exact dig
    · rw [iltF (by simp; omega), condF, f1_eq, f6_eq]
      exact ⟨_,_,rfl,good6 s _⟩
theorem dec (s : List UInt8) (hl : s.length ≤ 90000) (v : Nat) (hv : v ≤ 144115188075855872) : ∀ (k i acc : Nat), s.length < k + i → i ≤ s.length → (i = 0 → dashB s = false) → Lib.decFrom acc (s.drop i) = some v → f2 k s (acc : Int) (i : Int) = f1 s (v : Int) := by
  intro k
  induction k with
  | zero=>intro i acc h1 h2; omega
  | succ k ih =>
    intro i acc h1 h2 h3 h4
    have hle:=decFrom_le _ _ _ h4
    show sh2 s (acc:Int) (i:Int) f1 (f3 (f2 k)) (f4 (f2 k))=_
    unfold sh2
    by_cases hi:i < s.length
    · rw [iltT (by simp; omega), condT]
      have dig:f4 (f2 k) s (acc:Int) (i:Int)=f1 s (v:Int):=by
        rw [drop_lt hi] at h4
        simp only [Lib.decFrom] at h4
        cases hd:Lib.digitVal s[i] with
        | none=>rw [hd] at h4; cases h4
        | some d =>
          rw [hd] at h4
          obtain ⟨d1,d2,d3⟩:=Lib.digitVal_eq hd
          show sh4 s (acc:Int) (i:Int) (f5 (f2 k))=_
          unfold sh4
          rw [inbT hi,chkT,chkT]
          have hc:Int.ofNat (UInt8.toNat (List.getD s (Int.toNat (i:Int)) 0))=(48+d:Int):=by
            rw [toNat_nat,getD_lt hi]
            simp
            omega
          rw [hc,iltF (by omega),condF,iltF (by omega),condF,iltF (by omega),condF]
          show sh5 s (acc:Int) (i:Int) (f3 (f2 k))=_
          unfold sh5
          rw [inbT hi,chkT,hc,wrap_digit (by omega) (by omega),wrapI (x:=(acc:Int) * 10) (by omega) (by omega),wrapI (by omega) (by omega)]
          show f2 k s _ (IntKind.wrap .i64 ((i:Int)+1))=_
          rw [wrapS i (by omega),show (acc:Int) * 10+(48+(d:Int) - 48)=((acc * 10+d:Nat):Int) by omega]
          exact ih (i+1) (acc * 10+d) (by omega) hi (fun e=>by omega) h4
      by_cases h0:i=0
      · subst h0
        rw [show (((0:Nat):Int) == (0:Int))=true from rfl,condT,inb0 hi,chkT]
        have:=h3 rfl
        unfold dashB at this
        rw [this]
        exact dig
      · rw [show ((i : Int) == (0 : Int)) = false from beq_eq_false_iff_ne.2 (by omega), condF]
        exact dig
    · have : i = s.length := by omega
      subst this
      rw [List.drop_length] at h4
      cases h4
      rw [iltF (by simp),condF]
theorem run_ex (s : List UInt8) (hl : s.length ≤ 90000) : ∃ v b, f0 s = outI2 v b ∧ GoodI s v b ∧ ∀ n, NumS s n → b = true ∧ v = n := by
  show ∃ v b,f2 100000 s 0 ((0:Nat):Int)=outI2 v b∧_
  by_cases h:∃ n,NumS s n
  · obtain ⟨n, hn⟩ := h
    have key:f2 100000 s 0 ((0:Nat):Int)=outI2 n true:=by
      obtain ⟨hf,he⟩:=hn
      unfold fitsP at hf
      have fin:∀ m:Int,m=n→f6 s m=outI2 n true:=fun m e=>by
        rw [e,f6_eq,ileT (by omega),ileT (by omega),he,beq_self_eq_true]
        rfl
      unfold Lib.itoa at he
      split at he
      · rename_i hneg
        have hd:=digits_val n.natAbs n.natAbs (Nat.le_refl _)
        have hdash:dashB s=true:=by rw [he]; rfl
        have hlen:0 < s.length:=by rw [he]; simp
        have h1:f2 100000 s 0 ((0:Nat):Int)=f2 99999 s ((0:Nat):Int) ((1:Nat):Int):=by
          show sh2 s 0 ((0:Nat):Int) f1 (f3 (f2 99999)) (f4 (f2 99999))=_
          unfold sh2
          rw [iltT (by simp; omega),condT,show (((0:Nat):Int) == (0:Int))=true from rfl,condT,inb0 hlen,chkT]
          unfold dashB at hdash
          rw [hdash,condT]
          show f2 99999 s 0 (IntKind.wrap .i64 (((0:Nat):Int)+1))=_
          rw [wrapS 0 (by omega)]
          rfl
        rw [h1,dec s hl n.natAbs (by omega) 99999 1 0 (by omega) (by omega) (fun e=>by omega) (by rw [he]; exact hd),f1_eq,iltT (by simp; omega),hdash,Bool.and_self,cond_true]
        exact fin _ (by rw [wrapI (by omega) (by omega)]; omega)
      · rename_i hneg
        have hd:=digits_val n.toNat n.toNat (Nat.le_refl _)
        obtain ⟨d,r,hd9,e9⟩:=digits_head n.toNat
        have hdash:dashB s=false:=by
          unfold dashB
          rw [he,e9]
          show (Int.ofNat (UInt8.toNat (UInt8.ofNat (48+d))) == (45:Int))=false
          rw [UInt8.toNat_ofNat_of_lt' (by show 48+d < 256; omega)]
          exact beq_eq_false_iff_ne.2 (by simp; omega)
        have h1:f2 100000 s 0 ((0:Nat):Int)=f1 s (n.toNat:Int):=dec s hl n.toNat (by omega) 100000 0 0 (by omega) (by omega) (fun _=>hdash) (by rw [he]; exact hd)
        rw [h1,f1_eq,hdash,Bool.and_false,cond_false]
        exact fin _ (by omega)
    refine ⟨n,true,key,fun _ => ?_,fun m hm=>⟨rfl,hn.inj hm⟩⟩
    have:=hn.1
    unfold fitsP at this
    exact ⟨by omega,hn.2⟩
  · obtain ⟨v, b, h1, h2⟩ := any s hl 100000 0 0 (by omega) (by omega) (by omega) (by omega)
    exact ⟨v,b,h1,h2,fun n hn=>absurd ⟨n,hn⟩ h⟩
end rint
theorem rint_ex (s:List UInt8):∃ p:Int×Bool,s.length≤90000→rint.f0 s=outI2 p.1 p.2∧GoodI s p.1 p.2∧∀ n,NumS s n→p.2=true∧p.1=n:=by
  by_cases h:s.length≤90000
  · obtain ⟨v, b, h1⟩ := rint.run_ex s h
    exact ⟨(v,b),fun _=>h1⟩
  · exact ⟨(0,false),fun k=>absurd k h⟩
noncomputable def intZ (s:List UInt8):Int:=(Classical.choose (rint_ex s)).1
noncomputable def intB (s:List UInt8):Bool:=(Classical.choose (rint_ex s)).2
theorem rint_spec (s:List UInt8) (h:s.length≤90000):rint.f0 s=outI2 (intZ s) (intB s)∧GoodI s (intZ s) (intB s)∧∀ n,NumS s n→intB s=true∧intZ s=n:=Classical.choose_spec (rint_ex s) h
namespace rint
theorem f0_eq (s:List UInt8) (h:nle (List.length s) 90000=true):f0 s=some ((.tup [(.int .i64 (intZ s)),(.bool (intB s))]),[]):=(rint_spec s (nleI h)).1
theorem ok:CtxOk Tryz.prog X:=ctxOk tab (spC dec4.spOk spN) dpN
theorem okM:MOk Tryz.prog X:=fun g sp h=>by cases h
theorem spec (s:List UInt8) (h:(nle (List.length s) 90000)=true):CallSpec Tryz.prog E 70 [(.str s)] (.tup [(.int .i64 (intZ s)),(.bool (intB s))]) [] :=
  runFn_sound ok okM Tryz.call70 Tryz.func70 (by kernel_rfl) (by kernel_rfl) (by kernel_rfl) (by show 1≤64; decide) (by decide) (by rfl) ((run s).trans (f0_eq s h))
noncomputable def sp:Sp U El:=fun args k=>match args with
  | [.str s]=>chk (nle (List.length s) 90000) (k (.tup [(.int .i64 (intZ s)),(.bool (intB s))]) [])
  | _=>none
theorem spOk:SpOk Tryz.prog E 70 sp where
  det:=fun vs=>by
    unfold sp
    split
    · exact det_c _ _ _
    · exact ⟨none,fun _=>rfl⟩
  ok:=fun vs k r h=>by
    unfold sp at h
    split at h
    · obtain ⟨h1, h2⟩ := chk_some h
      exact ⟨_,_,spec _ h1,h2⟩
    · cases h
end rint
namespace rspanP
noncomputable def bd:Code:=(Tryz.f48.body).getD .skip
noncomputable def X:Ctx U El:=⟨E,tds,zeros,eqs,specOf [(70,rint.sp),(71,rspanV.sp)],100000,84,dspecOf [],fun _=>none⟩
noncomputable def nmR:Norm U:=⟨[],[84,3],[],[],[],[],[]⟩
noncomputable def RR:Kont U El:=fun st=>loadRes X 84 [(2,83)] 84 st fun st=>normK nmR st (retFin [84,3] [])
noncomputable def nm1:Norm U:=⟨[],[0,2],[2],[],[],[],[]⟩
noncomputable def nm2:Norm U:=⟨[],[0,2,4],[2],[],[],[],[]⟩
noncomputable def nm3:Norm U:=⟨[],[0,2,4],[2],[],[],[],[]⟩
noncomputable def nm4:Norm U:=⟨[],[2,9],[2,9],[],[],[],[]⟩
noncomputable def nm5:Norm U:=⟨[],[2,12],[2,12],[],[],[],[]⟩
abbrev Y1:=(List UInt8)→Int→Int→R
abbrev Y2:=(List UInt8)→Int→Int→Int→R
abbrev Y3:=(List UInt8)→Int→Int→Int→R
abbrev Y4:=Int→Int→Span→R
abbrev Y5:=Int→Int→Span→R
noncomputable def fr0 (s:List UInt8):St U El:=⟨[(0,(.str s))],[]⟩
noncomputable def fr1 (s0:List UInt8) (aA:Int) (bA:Int):St U El:=⟨[(0,(.str s0)),(2,(.ptr 2 0))],[(2,(.box 0 [(.int .i64 aA),(.int .i64 bA)]))]⟩
noncomputable def fr2 (s0:List UInt8) (i4:Int) (aA:Int) (bA:Int):St U El:=⟨[(0,(.str s0)),(2,(.ptr 2 0)),(4,(.int .i64 i4))],[(2,(.box 0 [(.int .i64 aA),(.int .i64 bA)]))]⟩
noncomputable def fr3 (s0:List UInt8) (i4:Int) (aA:Int) (bA:Int):St U El:=⟨[(0,(.str s0)),(2,(.ptr 2 0)),(4,(.int .i64 i4))],[(2,(.box 0 [(.int .i64 aA),(.int .i64 bA)]))]⟩
noncomputable def fr4 (aA:Int) (bA:Int) (b9:Span):St U El:=⟨[(2,(.ptr 2 0)),(9,(.ptr 9 0))],[(2,(.box 0 [(.int .i64 aA),(.int .i64 bA)])),(9,(.box 0 [(.int .i64 b9.slo),(.int .i64 b9.shi)]))]⟩
noncomputable def fr5 (aA:Int) (bA:Int) (cA:Span):St U El:=⟨[(2,(.ptr 2 0)),(12,(.ptr 12 0))],[(2,(.box 0 [(.int .i64 aA),(.int .i64 bA)])),(12,(.box 0 [(.int .i64 cA.slo),(.int .i64 cA.shi)]))]⟩
noncomputable def sh0 (s:List UInt8) (k2:Y2):R :=
  k2 s (0:Int) (0:Int) (0:Int)
noncomputable def sh1 (s0:List UInt8) (aA:Int) (bA:Int) (k5:Y5):R :=
  chk (nle (List.length s0) 90000) (condB (!(intB s0)) (some ((.tup [(.agg [(.int .i64 (0:Int)),(.int .i64 (0:Int))]),(.int .i64 (7:Int))]),[])) (condB (!(spanB (⟨(intZ s0),(intZ s0)⟩:Span))) (some ((.tup [(.agg [(.int .i64 (0:Int)),(.int .i64 (0:Int))]),(.int .i64 (7:Int))]),[])) (k5 aA bA (⟨(intZ s0),(intZ s0)⟩:Span))))
noncomputable def sh2 (s0:List UInt8) (i4:Int) (aA:Int) (bA:Int) (k1:Y1) (k3:Y3) (k4:Y4):R :=
  condB (ilt (IntKind.wrap .i64 (i4+(1:Int))) (Int.ofNat (List.length s0))) (chk (inb i4 (List.length s0)) (condB ((Int.ofNat (UInt8.toNat (List.getD s0 (Int.toNat i4) 0))) == (46:Int)) (chk (inb (IntKind.wrap .i64 (i4+(1:Int))) (List.length s0)) (condB ((Int.ofNat (UInt8.toNat (List.getD s0 (Int.toNat (IntKind.wrap .i64 (i4+(1:Int)))) 0))) == (46:Int)) (chk (ile 0 (0:Int)&&ile (0:Int) i4&&ile i4 (Int.ofNat (List.length s0))) (chk (nle (List.length (sub s0 (0:Int) i4)) 90000) (chk (ile 0 (IntKind.wrap .i64 (i4+(2:Int)))&&ile (IntKind.wrap .i64 (i4+(2:Int))) (Int.ofNat (List.length s0))&&ile (Int.ofNat (List.length s0)) (Int.ofNat (List.length s0))) (chk (nle (List.length (sub s0 (IntKind.wrap .i64 (i4+(2:Int))) (Int.ofNat (List.length s0)))) 90000) (condB (!(intB (sub s0 (0:Int) i4))) (some ((.tup [(.agg [(.int .i64 (0:Int)),(.int .i64 (0:Int))]),(.int .i64 (7:Int))]),[])) (condB (!(intB (sub s0 (IntKind.wrap .i64 (i4+(2:Int))) (Int.ofNat (List.length s0))))) (some ((.tup [(.agg [(.int .i64 (0:Int)),(.int .i64 (0:Int))]),(.int .i64 (7:Int))]),[])) (condB (ile (intZ (sub s0 (IntKind.wrap .i64 (i4+(2:Int))) (Int.ofNat (List.length s0)))) (intZ (sub s0 (0:Int) i4))) (some ((.tup [(.agg [(.int .i64 (0:Int)),(.int .i64 (0:Int))]),(.int .i64 (7:Int))]),[])) (condB (!(spanB (⟨(intZ (sub s0 (0:Int) i4)),(intZ (sub s0 (IntKind.wrap .i64 (i4+(2:Int))) (Int.ofNat (List.length s0))))⟩:Span))) (some ((.tup [(.agg [(.int .i64 (0:Int)),(.int .i64 (0:Int))]),(.int .i64 (7:Int))]),[])) (k4 aA bA (⟨(intZ (sub s0 (0:Int) i4)),(intZ (sub s0 (IntKind.wrap .i64 (i4+(2:Int))) (Int.ofNat (List.length s0))))⟩:Span)))))))))) (k3 s0 i4 aA bA))) (k3 s0 i4 aA bA))) (k1 s0 aA bA)
noncomputable def sh3 (s0:List UInt8) (i4:Int) (aA:Int) (bA:Int) (k2:Y2):R :=
  k2 s0 (IntKind.wrap .i64 (i4+(1:Int))) aA bA
noncomputable def sh4 (aA:Int) (bA:Int) (b9:Span):R :=
  some ((.tup [(.agg [(.int .i64 b9.slo),(.int .i64 b9.shi)]),(.int .i64 (0:Int))]),[])
noncomputable def sh5 (aA:Int) (bA:Int) (cA:Span):R :=
  some ((.tup [(.agg [(.int .i64 cA.slo),(.int .i64 cA.shi)]),(.int .i64 (0:Int))]),[])
noncomputable def it2 (Kb1:Kont U El) (n:Nat):Kont U El:=iter nm2 (fun st' K'=>exec X (cdp [1,0,1,0,0] bd) (.seq none .d (.seq (some nm3) (.block (.seq none .d (.cond (.seq none .d (.seq none .d (.seq none .d (.seq (some nm4) .d .d)))) .d))) .d)) st' K' (Eblk 0 (cutK nm1 Kb1) (fun _ _=>none)) RR) n
noncomputable def ct1:Kont U El:=fun st=>exec X (cdp [1,1] bd) (.seq none .d (.seq none .d (.seq (some nm5) .d .d))) st RR (fun _ _=>none) RR
noncomputable def ct3 (Kb1 Kb2:Kont U El):Kont U El:=fun st=>exec X (cdp [1,0,1,0,0,1,1] bd) .d st (cutK nm2 Kb2) (Eblk 0 (cutK nm1 Kb1) (fun _ _=>none)) RR
noncomputable def ct4 (Kb1 Kb3:Kont U El):Kont U El:=fun st=>exec X (cdp [1,0,1,0,0,1,0,0,1,0,1,1,1,1] bd) .d st (cutK nm3 Kb3) (Eblk 1 (cutK nm3 Kb3) (Eblk 0 (cutK nm1 Kb1) (fun _ _=>none))) RR
noncomputable def ct5:Kont U El:=fun st=>exec X (cdp [1,1,1,1,1] bd) .d st RR (fun _ _=>none) RR
theorem P0 (s):exec X (cdp [] bd) (.seq none .d (.seq (some nm1) (.seq none .d (.block (.loop nm2 (.seq none .d (.seq (some nm3) (.block (.seq none .d (.cond (.seq none .d (.seq none .d (.seq none .d (.seq (some nm4) .d .d)))) .d))) .d))))) (.seq none .d (.seq none .d (.seq (some nm5) .d .d))))) (fr0 s) RR (fun _ _=>none) RR=sh0 s (fun y0 y1 y2 y3=>(hid (it2 (hid ct1) 100000)) (fr2 y0 y1 y2 y3)):=by kernel_rfl
theorem P1 (s0 aA bA):ct1 (fr1 s0 aA bA)=sh1 s0 aA bA (fun y0 y1 y2=>(hid ct5) (fr5 y0 y1 y2)):=by kernel_rfl
theorem P2 (s0 i4 aA bA) (Kb1 Kb2:Kont U El):exec X (cdp [1,0,1,0,0] bd) (.seq none .d (.seq (some nm3) (.block (.seq none .d (.cond (.seq none .d (.seq none .d (.seq none .d (.seq (some nm4) .d .d)))) .d))) .d)) (fr2 s0 i4 aA bA) (cutK nm2 Kb2) (Eblk 0 (cutK nm1 Kb1) (fun _ _=>none)) RR=sh2 s0 i4 aA bA (fun y0 y1 y2=>Kb1 (fr1 y0 y1 y2)) (fun y0 y1 y2 y3=>(hid (ct3 Kb1 Kb2)) (fr3 y0 y1 y2 y3)) (fun y0 y1 y2=>(hid (ct4 Kb1 (hid (ct3 Kb1 Kb2)))) (fr4 y0 y1 y2)):=by kernel_rfl
theorem P3 (s0 i4 aA bA) (Kb1 Kb2:Kont U El):ct3 Kb1 Kb2 (fr3 s0 i4 aA bA)=sh3 s0 i4 aA bA (fun y0 y1 y2 y3=>Kb2 (fr2 y0 y1 y2 y3)):=by kernel_rfl
theorem P4 (aA bA b9) (Kb1 Kb3:Kont U El):ct4 Kb1 Kb3 (fr4 aA bA b9)=sh4 aA bA b9:=by kernel_rfl
theorem P5 (aA bA cA):ct5 (fr5 aA bA cA)=sh5 aA bA cA:=by kernel_rfl
noncomputable def f5 (aA:Int) (bA:Int) (cA:Span):R:=sh5 aA bA cA
noncomputable def f1 (s0:List UInt8) (aA:Int) (bA:Int):R:=sh1 s0 aA bA f5
noncomputable def f3 (k2:Y2) (s0:List UInt8) (i4:Int) (aA:Int) (bA:Int):R:=sh3 s0 i4 aA bA k2
noncomputable def f4 (k2:Y2) (aA:Int) (bA:Int) (b9:Span):R:=sh4 aA bA b9
noncomputable def f2:Nat→Y2
  | 0=>fun _ _ _ _=>none
  | n+1=>fun s0 i4 aA bA=>sh2 s0 i4 aA bA f1 (f3 (f2 n)) (f4 (f2 n))
noncomputable def f0 (s:List UInt8):R:=sh0 s (f2 100000)
theorem T5 (aA bA cA):(hid ct5) (fr5 aA bA cA)=f5 aA bA cA:=by
  refine (congrFun (hid_eq _) _).trans <| (P5 aA bA cA).trans ?_
  show _=sh5 aA bA cA
  rfl
theorem T1 (s0 aA bA):(hid ct1) (fr1 s0 aA bA)=f1 s0 aA bA:=by
  refine (congrFun (hid_eq _) _).trans <| (P1 s0 aA bA).trans ?_
  show _=sh1 s0 aA bA f5
  simp only [T5]
theorem T3 (KL2:Kont U El) (k2:Y2) (h2:∀ s0 i4 aA bA,KL2 (fr2 s0 i4 aA bA)=k2 s0 i4 aA bA) (s0 i4 aA bA):(hid (ct3 (hid ct1) KL2)) (fr3 s0 i4 aA bA)=f3 k2 s0 i4 aA bA:=by
  refine (congrFun (hid_eq _) _).trans <| (P3 s0 i4 aA bA (hid ct1) KL2).trans ?_
  show _=sh3 s0 i4 aA bA k2
  simp only [h2]
theorem T4 (KL2:Kont U El) (k2:Y2) (h2:∀ s0 i4 aA bA,KL2 (fr2 s0 i4 aA bA)=k2 s0 i4 aA bA) (aA bA b9):(hid (ct4 (hid ct1) (hid (ct3 (hid ct1) KL2)))) (fr4 aA bA b9)=f4 k2 aA bA b9:=by
  refine (congrFun (hid_eq _) _).trans <| (P4 aA bA b9 (hid ct1) (hid (ct3 (hid ct1) KL2))).trans ?_
  show _=sh4 aA bA b9
  rfl
theorem T2:∀ (n:Nat),∀ s0 i4 aA bA,it2 (hid ct1) n (fr2 s0 i4 aA bA)=f2 n s0 i4 aA bA:=by
  intro n
  induction n with
  | zero=>intros; rfl
  | succ n ih =>
    intro s0 i4 aA bA
    refine (P2 s0 i4 aA bA (hid ct1) (it2 (hid ct1) n)).trans ?_
    show _=sh2 s0 i4 aA bA f1 (f3 (f2 n)) (f4 (f2 n))
    simp only [T1,T3 (it2 (hid ct1) n) (f2 n) ih,T4 (it2 (hid ct1) n) (f2 n) ih]
theorem H2 (s0 i4 aA bA):hid (it2 (hid ct1) 100000) (fr2 s0 i4 aA bA)=f2 100000 s0 i4 aA bA:=(congrFun (hid_eq _) _).trans (T2 100000 s0 i4 aA bA)
theorem T0 (s):exec X bd (.seq none .d (.seq (some nm1) (.seq none .d (.block (.loop nm2 (.seq none .d (.seq (some nm3) (.block (.seq none .d (.cond (.seq none .d (.seq none .d (.seq none .d (.seq (some nm4) .d .d)))) .d))) .d))))) (.seq none .d (.seq none .d (.seq (some nm5) .d .d))))) (fr0 s) RR (fun _ _=>none) RR=f0 s:=by
  refine (P0 s).trans ?_
  show _=sh0 s (f2 100000)
  simp only [H2]
theorem run (s):runFnC X bd (.seq none .d (.seq (some nm1) (.seq none .d (.block (.loop nm2 (.seq none .d (.seq (some nm3) (.block (.seq none .d (.cond (.seq none .d (.seq none .d (.seq none .d (.seq (some nm4) .d .d)))) .d))) .d))))) (.seq none .d (.seq none .d (.seq (some nm5) .d .d))))) nmR [(2,83)] [84,3] [] [(.str s)]=f0 s:=T0 s
theorem tail (s:List UInt8) (x y:Int) (h:s.length≤90000):∃ (r:Span) (e:Int),f1 s x y=outSp r e∧∀ n,(e=0∧r.slo=r.shi∧r.slo=n)↔NumS s n:=by
  obtain ⟨_,g2,g3⟩:=rint_spec s h
  show ∃ (r:Span) (e:Int),sh1 s x y f5=outSp r e∧_
  unfold sh1
  rw [nleT (show s.length≤90000 from h),chkT]
  have no:∀ r:Span,(∀ n,¬ NumS s n)→∀ n,((7:Int)=0∧r.slo=r.shi∧r.slo=n)↔NumS s n:=fun r k n=>⟨fun a=>absurd a.1 (by decide),fun a=>absurd a (k n)⟩
  cases hb:intB s with
  | false=>exact ⟨⟨0,0⟩,7,rfl,no _ fun n hn=>by have:=(g3 n hn).1; rw [hb] at this; cases this⟩
  | true =>
    obtain ⟨k1,k2⟩:=g2 hb
    cases hs:spanB (⟨intZ s,intZ s⟩:Span) with
    | false =>
      refine ⟨⟨0,0⟩,7,rfl,no _ fun n hn => ?_⟩
      have e:=(g3 n hn).2
      have hf:=fits_iff.2 hn.1
      unfold spanB at hs
      dsimp only at hs
      rw [e,hf,ileT (Int.le_refl _)] at hs
      cases hs
    | true =>
      refine ⟨⟨intZ s,intZ s⟩,0,rfl,fun n=>⟨?_,fun hn=>⟨rfl,rfl,(g3 n hn).2⟩⟩⟩
      rintro ⟨_,_,rfl⟩
      simp only [spanB,Bool.and_eq_true] at hs
      exact ⟨fits_iff.1 hs.2.1,k2⟩
theorem loop (s : List UInt8) (h : s.length ≤ 90000) : ∀ (k i : Nat), s.length < k + i → i ≤ s.length → ∃ (r : Span) (e : Int), f2 k s (i : Int) 0 0 = outSp r e ∧ ∀ n, (e = 0 ∧ r.slo = r.shi ∧ r.slo = n) ↔ NumS s n := by
  intro k
  induction k with
  | zero=>intro i h1 h2; omega
  | succ k ih =>
    intro i h1 h2
    show ∃ (r:Span) (e:Int),sh2 s (i:Int) 0 0 f1 (f3 (f2 k)) (f4 (f2 k))=outSp r e∧_
    unfold sh2
    rw [wrapS i (by omega)]
    by_cases hi:i+1 < s.length
    · have hi' : i < s.length := by omega
      have next:∃ (r:Span) (e:Int),f3 (f2 k) s (i:Int) 0 0=outSp r e∧∀ n,(e=0∧r.slo=r.shi∧r.slo=n)↔NumS s n:=by
        show ∃ (r:Span) (e:Int),f2 k s (IntKind.wrap .i64 ((i:Int)+1)) 0 0=outSp r e∧_
        rw [wrapS i (by omega)]
        exact ih (i+1) (by omega) (by omega)
      rw [iltT (by simp; omega),condT,inbT hi',chkT]
      cases ha:(Int.ofNat (UInt8.toNat (List.getD s (Int.toNat (i:Int)) 0))) == (46:Int) with
      | false=>exact next
      | true =>
        rw [condT,inbT hi,chkT]
        cases hb:(Int.ofNat (UInt8.toNat (List.getD s (Int.toNat ((i+1:Nat):Int)) 0))) == (46:Int) with
        | false=>exact next
        | true =>
          have hno:∀ n,¬ NumS s n:=fun n hn=>by
            have e:=beq_iff_eq.1 ha
            rw [toNat_nat,getD_lt hi'] at e
            have hm:s[i]=46:=by
              apply UInt8.toNat_inj.1
              have:(46:UInt8).toNat=46:=rfl
              simp at e
              omega
            refine itoa_not n 46 (by decide) (by decide) ?_
            rw [← hn.2,← hm]
            exact List.getElem_mem hi'
          have rej:∃ (r:Span) (e:Int),(some ((.tup [(.agg [(.int .i64 (0:Int)),(.int .i64 (0:Int))]),(.int .i64 (7:Int))]),[]):R)=outSp r e∧∀ n,(e=0∧r.slo=r.shi∧r.slo=n)↔NumS s n:=⟨⟨0,0⟩,7,rfl,fun n=>⟨fun a=>absurd a.1 (by decide),fun a=>absurd a (hno n)⟩⟩
          have hw:IntKind.wrap .i64 ((i:Int)+(2:Int))=((i+2:Nat):Int):=by rw [wrapI (by omega) (by omega)]; omega
          have hsub:∀ a b:Int,(sub s a b).length≤90000:=fun a b=>by
            unfold sub
            simp only [List.length_take,List.length_drop]
            omega
          rw [condT,hw,ileT (Int.le_refl _),ileT (show (0:Int)≤(i:Int) by omega),ileT (show (i:Int)≤Int.ofNat s.length by simp; omega),nleT (hsub _ _),ileT (show (0:Int)≤((i+2:Nat):Int) by omega),ileT (show ((i+2:Nat):Int)≤Int.ofNat s.length by simp; omega),ileT (Int.le_refl _),nleT (hsub _ _),Bool.and_self,Bool.and_self,chkT,chkT,chkT,chkT]
          generalize sub s (0:Int) (i:Int)=x
          generalize sub s ((i+2:Nat):Int) (Int.ofNat s.length)=y
          cases intB x with
          | false=>exact rej
          | true =>
            cases intB y with
            | false=>exact rej
            | true =>
              by_cases hxy:intZ y≤intZ x
              · rw [ileT hxy]; exact rej
              · rw [ileF hxy]
                cases spanB (⟨intZ x,intZ y⟩:Span) with
                | false=>exact rej
                | true =>
                  refine ⟨⟨intZ x,intZ y⟩,0,rfl,fun n=>⟨fun a => ?_,fun a=>absurd a (hno n)⟩⟩
                  have:=a.2.1
                  dsimp only at this
                  omega
    · rw [iltF (by simp; omega), condF]
      exact tail s 0 0 h
end rspanP
theorem rspan_ex (s:List UInt8):∃ p:Span×Int,s.length≤90000→rspanP.f0 s=outSp p.1 p.2∧∀ n,(p.2=0∧p.1.slo=p.1.shi∧p.1.slo=n)↔NumS s n:=by
  by_cases h:s.length≤90000
  · obtain ⟨r, e, h1⟩ := rspanP.loop s h 100000 0 (by omega) (by omega)
    exact ⟨(r,e),fun _=>h1⟩
  · exact ⟨(⟨0,0⟩,0),fun k=>absurd k h⟩
noncomputable def rspanR (s:List UInt8):Span:=(Classical.choose (rspan_ex s)).1
noncomputable def rspanE (s:List UInt8):Int:=(Classical.choose (rspan_ex s)).2
theorem rspan_spec (s:List UInt8) (h:s.length≤90000):rspanP.f0 s=outSp (rspanR s) (rspanE s)∧∀ n,(rspanE s=0∧(rspanR s).slo=(rspanR s).shi∧(rspanR s).slo=n)↔NumS s n:=Classical.choose_spec (rspan_ex s) h
namespace rspanP
theorem f0_eq (s:List UInt8) (h:nle (List.length s) 90000=true):f0 s=some ((.tup [(.agg [(.int .i64 ((rspanR s).slo)),(.int .i64 ((rspanR s).shi))]),(.int .i64 (rspanE s))]),[]):=(rspan_spec s (nleI h)).1
theorem ok:CtxOk Tryz.prog X:=ctxOk tab (spC rint.spOk (spC rspanV.spOk spN)) dpN
theorem okM:MOk Tryz.prog X:=fun g sp h=>by cases h
theorem spec (s:List UInt8) (h:(nle (List.length s) 90000)=true):CallSpec Tryz.prog E 48 [(.str s)] (.tup [(.agg [(.int .i64 ((rspanR s).slo)),(.int .i64 ((rspanR s).shi))]),(.int .i64 (rspanE s))]) [] :=
  runFnC_sound ok okM Tryz.call48 Tryz.func48 (by kernel_rfl) (by kernel_rfl) (by kernel_rfl) (by show 1≤84; decide) (by decide) (by rfl) ((run s).trans (f0_eq s h))
noncomputable def sp:Sp U El:=fun args k=>match args with
  | [.str s]=>chk (nle (List.length s) 90000) (k (.tup [(.agg [(.int .i64 ((rspanR s).slo)),(.int .i64 ((rspanR s).shi))]),(.int .i64 (rspanE s))]) [])
  | _=>none
theorem spOk:SpOk Tryz.prog E 48 sp where
  det:=fun vs=>by
    unfold sp
    split
    · exact det_c _ _ _
    · exact ⟨none,fun _=>rfl⟩
  ok:=fun vs k r h=>by
    unfold sp at h
    split at h
    · obtain ⟨h1, h2⟩ := chk_some h
      exact ⟨_,_,spec _ h1,h2⟩
    · cases h
end rspanP
end Go.Proofs.YtkeplmpcijigaaaGreatDoor
