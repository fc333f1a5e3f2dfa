/- The document's reader of a line. -/
import Derived.Test.YtnofdcckddfooaaGreatDoorSN
namespace Go.Proofs.YtnofdcckddfooaaGreatDoor
set_option linter.unusedSectionVars false
set_option linter.unusedSimpArgs false
set_option linter.unusedVariables false
set_option maxRecDepth 100000
theorem split_ne (c:UInt8) (s:List UInt8):splitL s [c]≠[]:=by
  rcases parts c s with h | ⟨x,r,hx,rfl⟩
  · rw [splitL_none c s h]; simp
  · rw [splitL_cons c x r hx]; simp
theorem byte_eq {x:UInt8}:((Int.ofNat (UInt8.toNat x)) != (32:Int))=true↔x≠32:=by
  rw [bne_iff_ne]
  constructor
  · intro h e
    rw [e] at h
    exact h rfl
  · intro h e
    refine h (UInt8.toNat_inj.1 ?_)
    have:(32:UInt8).toNat=32:=rfl
    simp at e
    omega
namespace rread
noncomputable def bd:Code:=(Tryz.f35.body).getD .skip
noncomputable def X:Ctx U El:=⟨E,tds,zeros,eqs,specOf [(61,rspanP.sp)],100000,82,dspecOf [],fun _=>none⟩
noncomputable def nmR:Norm U:=⟨[],[6,7],[],[(6,.int)],[],[],[]⟩
noncomputable def RR:Kont U El:=fun st=>normK nmR st (retFin [6,7] [])
noncomputable def nm1:Norm U:=⟨[],[0,1,2],[],[],[],[],[]⟩
noncomputable def nm2:Norm U:=⟨[(8,.int)],[2,8],[8],[],[],[],[]⟩
noncomputable def nm3:Norm U:=⟨[(8,.int)],[0,2,8,9,10],[8],[],[],[],[]⟩
noncomputable def nm4:Norm U:=⟨[(8,.int)],[0,2,8,9,10],[8],[],[],[],[]⟩
noncomputable def nm5:Norm U:=⟨[(8,.int)],[0,2,8,9,10],[8],[],[],[],[]⟩
noncomputable def nm6:Norm U:=⟨[(8,.int)],[0,2,8,10,11],[8,11],[],[],[],[]⟩
abbrev Y1:=(List UInt8)→(List UInt8)→Int→R
abbrev Y2:=Int→(List Int)→R
abbrev Y3:=(List UInt8)→Int→(List Int)→Int→Int→R
abbrev Y4:=(List UInt8)→Int→(List Int)→Int→Int→R
abbrev Y5:=(List UInt8)→Int→(List Int)→Int→Int→R
abbrev Y6:=(List UInt8)→Int→(List Int)→Int→Span→R
noncomputable def fr0 (s:List UInt8) (w:List UInt8) (n:Int):St U El:=⟨[(0,(.str s)),(1,(.str w)),(2,(.int .i64 n))],[]⟩
noncomputable def fr1 (s0:List UInt8) (dA:List UInt8) (n2:Int):St U El:=⟨[(0,(.str s0)),(1,(.str dA)),(2,(.int .i64 n2))],[]⟩
noncomputable def fr2 (n2:Int) (bA:List Int):St U El:=⟨[(2,(.int .i64 n2)),(8,(.ful 8))],[(8,(.rows .int bA))]⟩
noncomputable def fr3 (s0:List UInt8) (n2:Int) (bA:List Int) (aA:Int) (cA:Int):St U El:=⟨[(0,(.str s0)),(2,(.int .i64 n2)),(8,(.ful 8)),(9,(.int .i64 aA)),(10,(.int .i64 cA))],[(8,(.rows .int bA))]⟩
noncomputable def fr4 (s0:List UInt8) (n2:Int) (bA:List Int) (aA:Int) (cA:Int):St U El:=⟨[(0,(.str s0)),(2,(.int .i64 n2)),(8,(.ful 8)),(9,(.int .i64 aA)),(10,(.int .i64 cA))],[(8,(.rows .int bA))]⟩
noncomputable def fr5 (s0:List UInt8) (n2:Int) (bA:List Int) (aA:Int) (cA:Int):St U El:=⟨[(0,(.str s0)),(2,(.int .i64 n2)),(8,(.ful 8)),(9,(.int .i64 aA)),(10,(.int .i64 cA))],[(8,(.rows .int bA))]⟩
noncomputable def fr6 (s0:List UInt8) (n2:Int) (bA:List Int) (cA:Int) (eA:Span):St U El:=⟨[(0,(.str s0)),(2,(.int .i64 n2)),(8,(.ful 8)),(10,(.int .i64 cA)),(11,(.ptr 11 0))],[(8,(.rows .int bA)),(11,(.box 0 [(.int .i64 eA.slo),(.int .i64 eA.shi)]))]⟩
noncomputable def sh0 (s:List UInt8) (w:List UInt8) (n:Int) (k1:Y1):R :=
  condB (ile (Int.ofNat (List.length s)) (Int.ofNat (List.length w))) (some ((.tup [(.lst .int ([]:List Int)),(.bool false)]),[])) (chk (ile 0 (0:Int)&&ile (0:Int) (Int.ofNat (List.length w))&&ile (Int.ofNat (List.length w)) (Int.ofNat (List.length s))) (condB (!((sub s (0:Int) (Int.ofNat (List.length w))) == w)) (some ((.tup [(.lst .int ([]:List Int)),(.bool false)]),[])) (chk (inb (Int.ofNat (List.length w)) (List.length s)) (condB ((Int.ofNat (UInt8.toNat (List.getD s (Int.toNat (Int.ofNat (List.length w))) 0))) != (32:Int)) (some ((.tup [(.lst .int ([]:List Int)),(.bool false)]),[])) (k1 s w n)))))
noncomputable def sh1 (s0:List UInt8) (dA:List UInt8) (n2:Int) (k3:Y3):R :=
  k3 s0 n2 ([]:List Int) (IntKind.wrap .i64 ((Int.ofNat (List.length dA))+(1:Int))) (IntKind.wrap .i64 ((Int.ofNat (List.length dA))+(1:Int)))
noncomputable def sh2 (n2:Int) (bA:List Int):R :=
  some ((.tup [(.lst .int bA),(.bool ((Int.ofNat (List.length bA)) == n2))]),[])
noncomputable def sh3 (s0:List UInt8) (n2:Int) (bA:List Int) (aA:Int) (cA:Int) (k2:Y2) (k4:Y4) (k5:Y5):R :=
  condB (ile cA (Int.ofNat (List.length s0))) (condB (ilt cA (Int.ofNat (List.length s0))) (chk (inb cA (List.length s0)) (condB ((Int.ofNat (UInt8.toNat (List.getD s0 (Int.toNat cA) 0))) != (32:Int)) (k4 s0 n2 bA aA cA) (k5 s0 n2 bA aA cA))) (k5 s0 n2 bA aA cA)) (k2 n2 bA)
noncomputable def sh4 (s0:List UInt8) (n2:Int) (bA:List Int) (aA:Int) (cA:Int) (k3:Y3):R :=
  k3 s0 n2 bA aA (IntKind.wrap .i64 (cA+(1:Int)))
noncomputable def sh5 (s0:List UInt8) (n2:Int) (bA:List Int) (aA:Int) (cA:Int) (k6:Y6):R :=
  chk (ile 0 aA&&ile aA cA&&ile cA (Int.ofNat (List.length s0))) (chk (nle (List.length (sub s0 aA cA)) 90000) (condB ((rspanE (sub s0 aA cA)) != (0:Int)) (some ((.tup [(.lst .int ([]:List Int)),(.bool false)]),[])) (condB ((rspanR (sub s0 aA cA)).slo != (rspanR (sub s0 aA cA)).shi) (some ((.tup [(.lst .int ([]:List Int)),(.bool false)]),[])) (k6 s0 n2 bA cA (rspanR (sub s0 aA cA))))))
noncomputable def sh6 (s0:List UInt8) (n2:Int) (bA:List Int) (cA:Int) (eA:Span) (k4:Y4):R :=
  chk (nle ((List.length bA+List.length ([eA.slo]:List Int)) * 8) 140737488355328&&nle (List.length bA+List.length ([eA.slo]:List Int)) 9223372036854775807) (k4 s0 n2 (bA++([eA.slo]:List Int)) (IntKind.wrap .i64 (cA+(1:Int))) cA)
noncomputable def it3 (Kb2:Kont U El) (n:Nat):Kont U El:=iter nm3 (fun st' K'=>exec X (cdp [1,1,1,1,0,1,0,0] bd) (.seq none .d (.seq (some nm4) (.block (.seq (some nm5) .d (.seq none .d (.seq (some nm6) .d .d)))) .d)) st' K' (Eblk 0 (cutK nm2 Kb2) (fun _ _=>none)) RR) n
noncomputable def ct1:Kont U El:=fun st=>exec X (cdp [1,1] bd) (.seq none .d (.seq none .d (.seq (some nm2) (.seq none .d (.block (.loop nm3 (.seq none .d (.seq (some nm4) (.block (.seq (some nm5) .d (.seq none .d (.seq (some nm6) .d .d)))) .d))))) .d))) st RR (fun _ _=>none) RR
noncomputable def ct2:Kont U El:=fun st=>exec X (cdp [1,1,1,1,1] bd) .d st RR (fun _ _=>none) RR
noncomputable def ct4 (Kb2 Kb3:Kont U El):Kont U El:=fun st=>exec X (cdp [1,1,1,1,0,1,0,0,1,1] bd) .d st (cutK nm3 Kb3) (Eblk 0 (cutK nm2 Kb2) (fun _ _=>none)) RR
noncomputable def ct5 (Kb2 Kb4:Kont U El):Kont U El:=fun st=>exec X (cdp [1,1,1,1,0,1,0,0,1,0,0,1] bd) (.seq none .d (.seq (some nm6) .d .d)) st (cutK nm4 Kb4) (Eblk 1 (cutK nm4 Kb4) (Eblk 0 (cutK nm2 Kb2) (fun _ _=>none))) RR
noncomputable def ct6 (Kb2 Kb4:Kont U El):Kont U El:=fun st=>exec X (cdp [1,1,1,1,0,1,0,0,1,0,0,1,1,1] bd) .d st (cutK nm4 Kb4) (Eblk 1 (cutK nm4 Kb4) (Eblk 0 (cutK nm2 Kb2) (fun _ _=>none))) RR
theorem P0 (s w n):exec X (cdp [] bd) (.seq none .d (.seq (some nm1) .d (.seq none .d (.seq none .d (.seq (some nm2) (.seq none .d (.block (.loop nm3 (.seq none .d (.seq (some nm4) (.block (.seq (some nm5) .d (.seq none .d (.seq (some nm6) .d .d)))) .d))))) .d))))) (fr0 s w n) RR (fun _ _=>none) RR=sh0 s w n (fun y0 y1 y2=>(hid ct1) (fr1 y0 y1 y2)):=by kernel_rfl
theorem P1 (s0 dA n2):ct1 (fr1 s0 dA n2)=sh1 s0 dA n2 (fun y0 y1 y2 y3 y4=>(hid (it3 (hid ct2) 100000)) (fr3 y0 y1 y2 y3 y4)):=by kernel_rfl
theorem P2 (n2 bA):ct2 (fr2 n2 bA)=sh2 n2 bA:=by kernel_rfl
theorem P3 (s0 n2 bA aA cA) (Kb2 Kb3:Kont U El):exec X (cdp [1,1,1,1,0,1,0,0] bd) (.seq none .d (.seq (some nm4) (.block (.seq (some nm5) .d (.seq none .d (.seq (some nm6) .d .d)))) .d)) (fr3 s0 n2 bA aA cA) (cutK nm3 Kb3) (Eblk 0 (cutK nm2 Kb2) (fun _ _=>none)) RR=sh3 s0 n2 bA aA cA (fun y0 y1=>Kb2 (fr2 y0 y1)) (fun y0 y1 y2 y3 y4=>(hid (ct4 Kb2 Kb3)) (fr4 y0 y1 y2 y3 y4)) (fun y0 y1 y2 y3 y4=>(hid (ct5 Kb2 (hid (ct4 Kb2 Kb3)))) (fr5 y0 y1 y2 y3 y4)):=by kernel_rfl
theorem P4 (s0 n2 bA aA cA) (Kb2 Kb3:Kont U El):ct4 Kb2 Kb3 (fr4 s0 n2 bA aA cA)=sh4 s0 n2 bA aA cA (fun y0 y1 y2 y3 y4=>Kb3 (fr3 y0 y1 y2 y3 y4)):=by kernel_rfl
theorem P5 (s0 n2 bA aA cA) (Kb2 Kb4:Kont U El):ct5 Kb2 Kb4 (fr5 s0 n2 bA aA cA)=sh5 s0 n2 bA aA cA (fun y0 y1 y2 y3 y4=>(hid (ct6 Kb2 Kb4)) (fr6 y0 y1 y2 y3 y4)):=by kernel_rfl
theorem P6 (s0 n2 bA cA eA) (Kb2 Kb4:Kont U El):ct6 Kb2 Kb4 (fr6 s0 n2 bA cA eA)=sh6 s0 n2 bA cA eA (fun y0 y1 y2 y3 y4=>Kb4 (fr4 y0 y1 y2 y3 y4)):=by kernel_rfl
noncomputable def f2 (n2:Int) (bA:List Int):R:=sh2 n2 bA
noncomputable def f4 (k3:Y3) (s0:List UInt8) (n2:Int) (bA:List Int) (aA:Int) (cA:Int):R:=sh4 s0 n2 bA aA cA k3
noncomputable def f6 (k3:Y3) (s0:List UInt8) (n2:Int) (bA:List Int) (cA:Int) (eA:Span):R:=sh6 s0 n2 bA cA eA (f4 k3)
noncomputable def f5 (k3:Y3) (s0:List UInt8) (n2:Int) (bA:List Int) (aA:Int) (cA:Int):R:=sh5 s0 n2 bA aA cA (f6 k3)
noncomputable def f3:Nat→Y3
  | 0=>fun _ _ _ _ _=>none
  | n+1=>fun s0 n2 bA aA cA=>sh3 s0 n2 bA aA cA f2 (f4 (f3 n)) (f5 (f3 n))
noncomputable def f1 (s0:List UInt8) (dA:List UInt8) (n2:Int):R:=sh1 s0 dA n2 (f3 100000)
noncomputable def f0 (s:List UInt8) (w:List UInt8) (n:Int):R:=sh0 s w n f1
theorem T2 (n2 bA):(hid ct2) (fr2 n2 bA)=f2 n2 bA:=by
  refine (congrFun (hid_eq _) _).trans <| (P2 n2 bA).trans ?_
  show _=sh2 n2 bA
  rfl
theorem T4 (KL3:Kont U El) (k3:Y3) (h3:∀ s0 n2 bA aA cA,KL3 (fr3 s0 n2 bA aA cA)=k3 s0 n2 bA aA cA) (s0 n2 bA aA cA):(hid (ct4 (hid ct2) KL3)) (fr4 s0 n2 bA aA cA)=f4 k3 s0 n2 bA aA cA:=by
  refine (congrFun (hid_eq _) _).trans <| (P4 s0 n2 bA aA cA (hid ct2) KL3).trans ?_
  show _=sh4 s0 n2 bA aA cA k3
  simp only [h3]
theorem T6 (KL3:Kont U El) (k3:Y3) (h3:∀ s0 n2 bA aA cA,KL3 (fr3 s0 n2 bA aA cA)=k3 s0 n2 bA aA cA) (s0 n2 bA cA eA):(hid (ct6 (hid ct2) (hid (ct4 (hid ct2) KL3)))) (fr6 s0 n2 bA cA eA)=f6 k3 s0 n2 bA cA eA:=by
  refine (congrFun (hid_eq _) _).trans <| (P6 s0 n2 bA cA eA (hid ct2) (hid (ct4 (hid ct2) KL3))).trans ?_
  show _=sh6 s0 n2 bA cA eA (f4 k3)
  simp only [T4 KL3 k3 h3]
theorem T5 (KL3:Kont U El) (k3:Y3) (h3:∀ s0 n2 bA aA cA,KL3 (fr3 s0 n2 bA aA cA)=k3 s0 n2 bA aA cA) (s0 n2 bA aA cA):(hid (ct5 (hid ct2) (hid (ct4 (hid ct2) KL3)))) (fr5 s0 n2 bA aA cA)=f5 k3 s0 n2 bA aA cA:=by
  refine (congrFun (hid_eq _) _).trans <| (P5 s0 n2 bA aA cA (hid ct2) (hid (ct4 (hid ct2) KL3))).trans ?_
  show _=sh5 s0 n2 bA aA cA (f6 k3)
  simp only [T6 KL3 k3 h3]
theorem T3:∀ (n:Nat),∀ s0 n2 bA aA cA,it3 (hid ct2) n (fr3 s0 n2 bA aA cA)=f3 n s0 n2 bA aA cA:=by
  intro n
  induction n with
  | zero=>intros; rfl
  | succ n ih =>
    intro s0 n2 bA aA cA
    refine (P3 s0 n2 bA aA cA (hid ct2) (it3 (hid ct2) n)).trans ?_
    show _=sh3 s0 n2 bA aA cA f2 (f4 (f3 n)) (f5 (f3 n))
    simp only [T2,T4 (it3 (hid ct2) n) (f3 n) ih,T5 (it3 (hid ct2) n) (f3 n) ih]
theorem H3 (s0 n2 bA aA cA):hid (it3 (hid ct2) 100000) (fr3 s0 n2 bA aA cA)=f3 100000 s0 n2 bA aA cA:=(congrFun (hid_eq _) _).trans (T3 100000 s0 n2 bA aA cA)
theorem T1 (s0 dA n2):(hid ct1) (fr1 s0 dA n2)=f1 s0 dA n2:=by
  refine (congrFun (hid_eq _) _).trans <| (P1 s0 dA n2).trans ?_
  show _=sh1 s0 dA n2 (f3 100000)
  simp only [H3]
theorem T0 (s w n):exec X bd (.seq none .d (.seq (some nm1) .d (.seq none .d (.seq none .d (.seq (some nm2) (.seq none .d (.block (.loop nm3 (.seq none .d (.seq (some nm4) (.block (.seq (some nm5) .d (.seq none .d (.seq (some nm6) .d .d)))) .d))))) .d))))) (fr0 s w n) RR (fun _ _=>none) RR=f0 s w n:=by
  refine (P0 s w n).trans ?_
  show _=sh0 s w n f1
  simp only [T1]
theorem run (s w n):runFn X bd (.seq none .d (.seq (some nm1) .d (.seq none .d (.seq none .d (.seq (some nm2) (.seq none .d (.block (.loop nm3 (.seq none .d (.seq (some nm4) (.block (.seq (some nm5) .d (.seq none .d (.seq (some nm6) .d .d)))) .d))))) .d))))) nmR [6,7] [] [(.str s),(.str w),(.int .i64 n)]=f0 s w n:=T0 s w n
theorem acc (s:List UInt8) (hs:s.length≤90000) (n:Int) (k fr i:Nat) (out:List Int) (h1:fr≤i) (h2:i≤s.length) (h3:out.length≤i):f5 (f3 k) s n out (fr:Int) (i:Int)=(match numO ((s.drop fr).take (i - fr)) with | none=>outL2 [] false | some v=>f3 k s n (out++[v]) ((i+1:Nat):Int) ((i+1:Nat):Int)):=by
  show sh5 s n out (fr:Int) (i:Int) (f6 (f3 k))=_
  unfold sh5
  have hx:sub s (fr:Int) (i:Int)=(s.drop fr).take (i - fr):=rfl
  have hl:((s.drop fr).take (i - fr)).length≤90000:=by simp only [List.length_take,List.length_drop]; omega
  rw [hx,ileT (show (0:Int)≤(fr:Int) by omega),ileT (show (fr:Int)≤(i:Int) by omega),ileT (show (i:Int)≤Int.ofNat s.length by simp; omega),Bool.and_self,Bool.and_self,chkT,nleT hl,chkT]
  generalize (s.drop fr).take (i - fr)=x at hl
  have hsp:=(rspan_spec x hl).2
  cases hn:numO x with
  | none =>
    have hno:=numO_none.1 hn
    by_cases he:rspanE x=0
    · rw [he]
      have hne:(rspanR x).slo≠(rspanR x).shi:=fun e=>hno _ ((hsp _).1 ⟨he,e,rfl⟩)
      rw [show ((0:Int) != 0)=false from rfl,condF,show ((rspanR x).slo != (rspanR x).shi)=true from bne_iff_ne.2 hne]
      rfl
    · rw [show (rspanE x != (0 : Int)) = true from bne_iff_ne.2 he]
      rfl
  | some v =>
    obtain ⟨g1,g2,g3⟩:=(hsp v).2 (numO_some.1 hn)
    rw [g1,show ((0:Int) != 0)=false from rfl,condF,show ((rspanR x).slo != (rspanR x).shi)=false by rw [g2]; simp,condF]
    show sh6 s n out (i:Int) (rspanR x) (f4 (f3 k))=_
    unfold sh6
    rw [nleT (by simp only [List.length_cons,List.length_nil]; omega),nleT (by simp only [List.length_cons,List.length_nil]; omega),Bool.and_self,chkT,g3,wrapS i (by omega)]
    show f3 k s n (out++[v]) ((i+1:Nat):Int) (IntKind.wrap .i64 ((i:Int)+1))=_
    rw [wrapS i (by omega)]
theorem loop (s : List UInt8) (hs : s.length ≤ 90000) (n : Int) : ∀ (k fr i : Nat) (out : List Int), s.length + 1 < k + i → fr ≤ i → i ≤ s.length → 32 ∉ (s.drop fr).take (i - fr) → out.length ≤ i →
    f3 k s n out (fr:Int) (i:Int)=(match nums (splitL (s.drop fr) [32]) with | none=>outL2 [] false | some r=>f2 n (out++r)):=by
  intro k
  induction k with
  | zero=>intro fr i out h1 h2 h3; omega
  | succ k ih =>
    intro fr i out h1 h2 h3 h4 h5
    show sh3 s n out (fr:Int) (i:Int) f2 (f4 (f3 k)) (f5 (f3 k))=_
    unfold sh3
    rw [ileT (show (i:Int)≤Int.ofNat s.length by simp; omega),condT]
    by_cases hi:i < s.length
    · rw [iltT (by simp; omega), condT, inbT hi, chkT, toNat_nat, getD_lt hi]
      have hd:s.drop fr=(s.drop fr).take (i - fr)++s[i] :: s.drop (i+1):=by
        have e1:=List.take_append_drop (i - fr) (s.drop fr)
        rw [List.drop_drop,show fr+(i - fr)=i by omega,drop_lt hi] at e1
        exact e1.symm
      by_cases hc:s[i]=32
      · rw [show ((Int.ofNat (UInt8.toNat s[i])) != (32 : Int)) = false by rw [hc]; rfl, condF, acc s hs n k fr i out h2 h3 h5]
        rw [hc] at hd
        rw [show splitL (s.drop fr) [32]=(s.drop fr).take (i - fr) :: splitL (s.drop (i+1)) [32] by conv=>lhs; rw [hd]; rw [splitL_cons 32 _ _ h4]]
        simp only [nums]
        cases numO ((s.drop fr).take (i - fr)) with
        | none=>rfl
        | some v =>
          simp only
          rw [ih (i+1) (i+1) (out++[v]) (by omega) (Nat.le_refl _) hi (by simp) (by simp; omega)]
          cases nums (splitL (s.drop (i+1)) [32]) with
          | none=>rfl
          | some r=>simp
      · rw [byte_eq.2 hc, condT]
        show f3 k s n out (fr:Int) (IntKind.wrap .i64 ((i:Int)+1))=_
        rw [wrapS i (by omega)]
        refine ih fr (i+1) out (by omega) (by omega) hi ?_ (by omega)
        intro hm
        have e:(s.drop fr).take (i+1 - fr)=(s.drop fr).take (i - fr)++[s[i]]:=by
          have hl:i - fr < (s.drop fr).length:=by rw [List.length_drop]; omega
          rw [show i+1 - fr=(i - fr)+1 by omega,take_lt hl]
          congr 2
          rw [List.getElem_drop]
          congr 1
          omega
        rw [e,List.mem_append,List.mem_singleton] at hm
        rcases hm with hm | hm
        · exact h4 hm
        · exact hc hm.symm
    · have hi' : i = s.length := by omega
      subst hi'
      rw [iltF (by simp),condF,acc s hs n k fr s.length out h2 h3 h5]
      have ht:(s.drop fr).take (s.length - fr)=s.drop fr:=List.take_of_length_le (by rw [List.length_drop]; exact Nat.le_refl _)
      rw [ht] at h4 ⊢
      rw [splitL_none 32 _ h4]
      simp only [nums]
      cases numO (s.drop fr) with
      | none=>rfl
      | some v =>
        obtain ⟨k,rfl⟩:∃ j,k=j+1:=⟨k - 1,by omega⟩
        show sh3 s n (out++[v]) ((s.length+1:Nat):Int) ((s.length+1:Nat):Int) f2 (f4 (f3 k)) (f5 (f3 k))=_
        unfold sh3
        rw [ileF (by simp; omega),condF]
theorem f0_eq (s w : List UInt8) (n : Int) (h : (nle (List.length s) 90000 && wordB w n) = true) : f0 s w n = some ((.tup [(.lst .int (rdL w s)), (.bool (numB w s n))]), []) := by
  simp only [wordB,Bool.and_eq_true] at h
  obtain ⟨h1,h2,h3,h4,h5⟩:=h
  have hs:=nleI h1
  have hw:=nleI h2
  have hnw:32 ∉ w:=by
    rw [Bool.not_eq_true'] at h3
    intro hm
    have:=List.elem_eq_true_of_mem hm
    rw [this] at h3
    cases h3
  show sh0 s w n f1=outL2 (rdL w s) (numB w s n)
  unfold sh0
  by_cases hex:∃ r,s=w++32 :: r
  · obtain ⟨r, hr⟩ := hex
    have hlen:s.length=w.length+1+r.length:=by rw [hr]; simp; omega
    have hlt:w.length < s.length:=by omega
    have hat:s[w.length]=32:=by simp only [hr]; simp
    have htk:sub s (0:Int) (Int.ofNat w.length)=w:=by
      unfold sub
      rw [hr]
      simp
    have hL:lineO w s=nums (splitL r [32]):=by
      unfold lineO
      rw [hr,splitL_cons 32 w r hnw]
      have:(splitL r [32]).isEmpty=false:=by
        cases hq:splitL r [32] with
        | nil=>exact absurd hq (split_ne 32 r)
        | cons a l=>rfl
      simp only [this,beq_self_eq_true]
      rfl
    rw [ileF (by simp; omega),condF,ileT (Int.le_refl _),ileT (show (0:Int)≤Int.ofNat w.length by simp),ileT (show Int.ofNat w.length≤Int.ofNat s.length by simp; omega),Bool.and_self,Bool.and_self,chkT,htk,beq_self_eq_true,show (!true)=false from rfl,condF,inbT (i:=w.length) hlt |> fun e=>(show inb (Int.ofNat w.length) s.length=true from e),chkT,show Int.toNat (Int.ofNat w.length)=w.length from rfl,getD_lt hlt,hat,show ((Int.ofNat (UInt8.toNat 32)) != (32:Int))=false from rfl,condF]
    show sh1 s w n (f3 100000)=_
    unfold sh1
    rw [show IntKind.wrap .i64 (Int.ofNat w.length+1)=((w.length+1:Nat):Int) from wrapS w.length (by omega)]
    have hd:s.drop (w.length+1)=r:=by
      rw [hr,show w++32 :: r=(w++[32])++r by simp,List.drop_append_of_le_length (by simp)]
      simp
    rw [loop s hs n 100000 (w.length+1) (w.length+1) [] (by omega) (Nat.le_refl _) (by omega) (by simp) (by simp),hd]
    cases hq:nums (splitL r [32]) with
    | none =>
      rw [hq] at hL
      have:rdL w s=[]:=by unfold rdL; rw [hL]; rfl
      rw [this,(num_none hL).1]
    | some l =>
      rw [hq] at hL
      have e1:rdL w s=l:=by unfold rdL; rw [hL]; rfl
      have e2:numB w s n=(Int.ofNat l.length == n):=by unfold numB; rw [hL]
      rw [e1,e2]
      rfl
  · have hL : lineO w s = none := by
      unfold lineO
      rcases parts 32 s with hp | ⟨x,r,hx,hr⟩
      · rw [splitL_none 32 s hp]
        simp
      · rw [hr, splitL_cons 32 x r hx]
        have:(x == w)=false:=beq_eq_false_iff_ne.2 fun e=>hex ⟨r,by rw [hr,e]⟩
        simp only [this,Bool.false_and]
        rfl
    have e1:rdL w s=[]:=by unfold rdL; rw [hL]; rfl
    rw [e1,(num_none hL).1]
    by_cases hlt:w.length < s.length
    · rw [ileF (by simp; omega), condF, ileT (Int.le_refl _), ileT (show (0 : Int) ≤ Int.ofNat w.length by simp), ileT (show Int.ofNat w.length ≤ Int.ofNat s.length by simp; omega), Bool.and_self, Bool.and_self, chkT, inbT (i := w.length) hlt |> fun e => (show inb (Int.ofNat w.length) s.length = true from e), show Int.toNat (Int.ofNat w.length) = w.length from rfl, getD_lt hlt]
      cases hb:sub s (0:Int) (Int.ofNat w.length) == w with
      | false=>rfl
      | true =>
        have htk:s.take w.length=w:=by
          have:=beq_iff_eq.1 hb
          unfold sub at this
          simpa using this
        have hne:s[w.length]≠32:=fun e=>by
          refine hex ⟨s.drop (w.length+1),?_⟩
          have:=List.take_append_drop w.length s
          rw [htk,drop_lt hlt,e] at this
          exact this.symm
        rw [byte_eq.2 hne]
        rfl
    · rw [ileT (by simp; omega)]
      rfl
theorem ok:CtxOk Tryz.prog X:=ctxOk tab (spC rspanP.spOk spN) dpN
theorem okM:MOk Tryz.prog X:=fun g sp h=>by cases h
theorem spec (s:List UInt8) (w:List UInt8) (n:Int) (h:((nle (List.length s) 90000&&wordB w n))=true):CallSpec Tryz.prog E 35 [(.str s),(.str w),(.int .i64 n)] (.tup [(.lst .int (rdL w s)),(.bool (numB w s n))]) [] :=
  runFn_sound ok okM Tryz.call35 Tryz.func35 (by kernel_rfl) (by kernel_rfl) (by kernel_rfl) (by show 3≤82; decide) (by decide) (by rfl) ((run s w n).trans (f0_eq s w n h))
noncomputable def sp:Sp U El:=fun args k=>match args with
  | [.str s,.str w,.int .i64 n]=>chk ((nle (List.length s) 90000&&wordB w n)) (k (.tup [(.lst .int (rdL w s)),(.bool (numB w s n))]) [])
  | _=>none
theorem spOk:SpOk Tryz.prog E 35 sp where
  det:=fun vs=>by
    unfold sp
    split
    · exact det_c _ _ _
    · exact ⟨none,fun _=>rfl⟩
  ok:=fun vs k r h=>by
    unfold sp at h
    split at h
    · obtain ⟨h1, h2⟩ := chk_some h
      exact ⟨_,_,spec _ _ _ h1,h2⟩
    · cases h
end rread
end Go.Proofs.YtnofdcckddfooaaGreatDoor
