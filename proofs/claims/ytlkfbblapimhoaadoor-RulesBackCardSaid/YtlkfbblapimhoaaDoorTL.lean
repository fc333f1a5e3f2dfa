/- Tokens, on: the loop. -/
import Derived.Test.YtlkfbblapimhoaaDoorTK
namespace Go.Proofs.YtlkfbblapimhoaaDoor
set_option linter.unusedSectionVars false
set_option linter.unusedSimpArgs false
set_option linter.unusedVariables false
set_option maxRecDepth 100000
noncomputable def outTK (out:List Tok) (r:TR):R:=condB r.bad (some (.tup [.lst .tok [],.agg [.int .i64 r.pl,.int .i64 r.pc],.int .i64 7],[])) (some (.tup [.lst .tok (out++r.l),.agg [.int .i64 0,.int .i64 0],.int .i64 0],[]))
theorem outTK_cons (out:List Tok) (t:Tok) (r:TR):outTK out (r.cons t)=outTK (out++[t]) r:=by
  unfold outTK TR.cons
  simp
theorem kindN_le (b : UInt8) (s : List UInt8) : (kindN (b :: s)).2 ≤ (b :: s).length ∧ 0 < (kindN (b :: s)).2 := by
  have hn:(b :: s)≠[]:=by simp
  unfold kindN
  have hg:List.getD (b :: s) 0 0=b:=rfl
  rw [hg]
  dsimp only
  have len1:1≤(b :: s).length:=by simp
  cases h1:(byI b == 32||byI b == 9) with
  | true=>exact ⟨len1,Nat.one_pos⟩
  | false =>
    cases h2:byI b == 10 with
    | true=>exact ⟨len1,Nat.one_pos⟩
    | false =>
      cases h3:byI b == 35 with
      | true =>
        refine ⟨comN_le _,?_⟩
        have:b≠10:=fun e=>by rw [e] at h3; exact absurd h3 (by decide)
        show 0 < comN (b :: s)
        unfold comN
        rw [show (b == 10)=false from beq_eq_false_iff_ne.2 this]
        simp
      | false =>
        cases h4:letterB (byI b) with
        | true =>
          cases h5:ilt 20 (wordD (b :: s)) with
          | true=>exact ⟨len1,Nat.one_pos⟩
          | false =>
            refine ⟨wordN_le _,?_⟩
            show 0 < wordN (b :: s)
            unfold wordN bodyB
            rw [show letterB (Int.ofNat b.toNat)=true from h4]
            simp
        | false =>
          cases h5:digitB (byI b) with
          | true =>
            refine ⟨numeralN_le _,?_⟩
            show 0 < numeralN (b :: s)
            have:0 < digN (b :: s):=by unfold digN; rw [h5]; simp
            unfold numeralN
            cases fracB ((b :: s).drop (digN (b :: s)))<;>simp<;>omega
          | false =>
            cases h6:symN (b :: s) == 0 with
            | true=>exact ⟨len1,Nat.one_pos⟩
            | false =>
              have:=beq_eq_false_iff_ne.1 h6
              exact ⟨symN_le _ hn,Nat.pos_of_ne_zero this⟩
theorem idx_com : ∀ s : List UInt8, (idxbZ s 10 = -1 ∧ comN s = s.length) ∨ (idxbZ s 10 = Int.ofNat (comN s) ∧ comN s < s.length) := by
  intro s
  show (Lib.indexByte s 10 = -1∧_)∨(Lib.indexByte s 10=_∧_)
  induction s with
  | nil=>exact .inl ⟨rfl,rfl⟩
  | cons b s ih =>
    unfold Lib.indexByte comN
    cases hb:b == 10 with
    | true=>exact .inr ⟨rfl,by simp⟩
    | false =>
      rcases ih with ⟨h1,h2⟩ | ⟨h1,h2⟩
      · left
        rw [h1]
        exact ⟨rfl,by simp [h2]⟩
      · right
        rw [h1]
        have:(Int.ofNat (comN s) == -1)=false:=by simp
        rw [this]
        exact ⟨by simp,by simp; exact h2⟩
namespace tokens
noncomputable def bd:Code:=(Tryd.f42.body).getD .skip
noncomputable def X:Ctx U El:=⟨E,tds,zeros,eqs,specOf [(57,letter.sp),(58,word.sp),(59,idxb.sp),(60,digit.sp),(61,numeral.sp),(62,symbol.sp)],100000,92,dspecOf [],fun _=>none,fun _=>none⟩
noncomputable def nmR:Norm U:=⟨[],[2,92,4],[],[(2,.tok)],[],[],[]⟩
noncomputable def RR:Kont U El:=fun st=>loadRes X 92 [(3,54)] 92 st fun st=>normK nmR st (retFin [2,92,4] [])
noncomputable def nm1:Norm U:=⟨[(5,.tok)],[3,5,6],[5,3,6],[],[],[],[]⟩
noncomputable def nm2:Norm U:=⟨[(5,.tok)],[0,3,5,6],[5,3,6],[],[],[],[]⟩
noncomputable def nm3:Norm U:=⟨[(5,.tok)],[0,3,5,6,7,8],[5,3,6],[],[],[],[]⟩
noncomputable def nm4:Norm U:=⟨[(5,.tok)],[0,3,5,6,8],[5,3,6],[],[],[],[]⟩
abbrev Y1:=(List Tok)→Int→Int→Int→Int→R
abbrev Y2:=(List UInt8)→(List Tok)→Int→Int→Int→Int→R
abbrev Y3:=(List UInt8)→(List Tok)→Int→Int→Int→Int→Int→Int→R
abbrev Y4:=(List UInt8)→(List Tok)→Int→Int→Int→Int→Int→R
noncomputable def fr0 (s:List UInt8):St U El:=⟨[(0,(.str s))],[]⟩
noncomputable def fr1 (cA:List Tok) (dA:Int) (eA:Int) (aA:Int) (bA:Int):St U El:=⟨[(3,(.ptr 3 0)),(5,(.ful 5)),(6,(.ptr 6 0))],[(5,(.rows .tok cA)),(3,(.box 0 [(.int .i64 dA),(.int .i64 eA)])),(6,(.box 0 [(.int .i64 aA),(.int .i64 bA)]))]⟩
noncomputable def fr2 (s0:List UInt8) (cA:List Tok) (dA:Int) (eA:Int) (aA:Int) (bA:Int):St U El:=⟨[(0,(.str s0)),(3,(.ptr 3 0)),(5,(.ful 5)),(6,(.ptr 6 0))],[(5,(.rows .tok cA)),(3,(.box 0 [(.int .i64 dA),(.int .i64 eA)])),(6,(.box 0 [(.int .i64 aA),(.int .i64 bA)]))]⟩
noncomputable def fr3 (s0:List UInt8) (cA:List Tok) (fA:Int) (n8:Int) (dA:Int) (eA:Int) (aA:Int) (bA:Int):St U El:=⟨[(0,(.str s0)),(3,(.ptr 3 0)),(5,(.ful 5)),(6,(.ptr 6 0)),(7,(.int .i64 fA)),(8,(.int .i64 n8))],[(5,(.rows .tok cA)),(3,(.box 0 [(.int .i64 dA),(.int .i64 eA)])),(6,(.box 0 [(.int .i64 aA),(.int .i64 bA)]))]⟩
noncomputable def fr4 (s0:List UInt8) (cA:List Tok) (n8:Int) (dA:Int) (eA:Int) (aA:Int) (bA:Int):St U El:=⟨[(0,(.str s0)),(3,(.ptr 3 0)),(5,(.ful 5)),(6,(.ptr 6 0)),(8,(.int .i64 n8))],[(5,(.rows .tok cA)),(3,(.box 0 [(.int .i64 dA),(.int .i64 eA)])),(6,(.box 0 [(.int .i64 aA),(.int .i64 bA)]))]⟩
noncomputable def sh0 (s:List UInt8) (k2:Y2):R :=
  condB (ilt (262144:Int) (Int.ofNat (List.length s))) (some ((.tup [(.lst .tok ([]:List Tok)),(.agg [(.int .i64 (0:Int)),(.int .i64 (0:Int))]),(.int .i64 (4:Int))]),[])) (k2 s ([]:List Tok) (0:Int) (0:Int) (1:Int) (1:Int))
noncomputable def sh1 (cA:List Tok) (dA:Int) (eA:Int) (aA:Int) (bA:Int):R :=
  chk (nle ((List.length cA+List.length ([(⟨(5:Int),([]:List UInt8),aA,bA⟩:Tok)]:List Tok)) * 40) 140737488355328&&nle (List.length cA+List.length ([(⟨(5:Int),([]:List UInt8),aA,bA⟩:Tok)]:List Tok)) 9223372036854775807) (some ((.tup [(.lst .tok (cA++([(⟨(5:Int),([]:List UInt8),aA,bA⟩:Tok)]:List Tok))),(.agg [(.int .i64 (0:Int)),(.int .i64 (0:Int))]),(.int .i64 (0:Int))]),[]))
noncomputable def sh2 (s0:List UInt8) (cA:List Tok) (dA:Int) (eA:Int) (aA:Int) (bA:Int) (k1:Y1) (k2:Y2) (k3:Y3):R :=
  condB (!(s0 == ([]:List UInt8))) (chk (inb (0:Int) (List.length s0)) (condB ((Int.ofNat (UInt8.toNat (List.getD s0 0 0))) == (32:Int)) (k3 s0 cA (0:Int) (1:Int) dA eA aA bA) (condB ((Int.ofNat (UInt8.toNat (List.getD s0 0 0))) == (9:Int)) (k3 s0 cA (0:Int) (1:Int) dA eA aA bA) (condB ((Int.ofNat (UInt8.toNat (List.getD s0 0 0))) == (10:Int)) (chk (nle ((List.length cA+List.length ([(⟨(4:Int),([]:List UInt8),aA,bA⟩:Tok)]:List Tok)) * 40) 140737488355328&&nle (List.length cA+List.length ([(⟨(4:Int),([]:List UInt8),aA,bA⟩:Tok)]:List Tok)) 9223372036854775807) (chk (ile 0 (1:Int)&&ile (1:Int) (Int.ofNat (List.length s0))&&ile (Int.ofNat (List.length s0)) (Int.ofNat (List.length s0))) (k2 (sub s0 (1:Int) (Int.ofNat (List.length s0))) (cA++([(⟨(4:Int),([]:List UInt8),aA,bA⟩:Tok)]:List Tok)) dA eA (IntKind.wrap .i64 (aA+(1:Int))) (1:Int)))) (condB ((Int.ofNat (UInt8.toNat (List.getD s0 0 0))) == (35:Int)) (condB (ilt (idxbZ s0 (10:Int)) (0:Int)) (k3 s0 cA (0:Int) (Int.ofNat (List.length s0)) dA eA aA bA) (k3 s0 cA (0:Int) (idxbZ s0 (10:Int)) dA eA aA bA)) (condB (letterB (Int.ofNat (UInt8.toNat (List.getD s0 0 0)))) (chk (nle (List.length s0) 90000) (condB (ilt (20:Int) (wordD s0)) (some ((.tup [(.lst .tok ([]:List Tok)),(.agg [(.int .i64 aA),(.int .i64 bA)]),(.int .i64 (7:Int))]),[])) (k3 s0 cA (1:Int) (wordD s0) dA eA aA bA))) (condB (digitB (Int.ofNat (UInt8.toNat (List.getD s0 0 0)))) (chk (nle (List.length s0) 90000) (k3 s0 cA (2:Int) (numeralD s0) dA eA aA bA)) (chk ((nle (List.length s0) 90000&&nlt 0 (List.length s0))) (condB ((symD s0) == (0:Int)) (some ((.tup [(.lst .tok ([]:List Tok)),(.agg [(.int .i64 aA),(.int .i64 bA)]),(.int .i64 (7:Int))]),[])) (k3 s0 cA (3:Int) (symD s0) dA eA aA bA)))))))))) (k1 cA dA eA aA bA)
noncomputable def sh3 (s0:List UInt8) (cA:List Tok) (fA:Int) (n8:Int) (dA:Int) (eA:Int) (aA:Int) (bA:Int) (k4:Y4):R :=
  condB (fA != (0:Int)) (chk (ile 0 (0:Int)&&ile (0:Int) n8&&ile n8 (Int.ofNat (List.length s0))) (chk (nle ((List.length cA+List.length ([(⟨fA,(sub s0 (0:Int) n8),aA,bA⟩:Tok)]:List Tok)) * 40) 140737488355328&&nle (List.length cA+List.length ([(⟨fA,(sub s0 (0:Int) n8),aA,bA⟩:Tok)]:List Tok)) 9223372036854775807) (k4 s0 (cA++([(⟨fA,(sub s0 (0:Int) n8),aA,bA⟩:Tok)]:List Tok)) n8 dA eA aA bA))) (k4 s0 cA n8 dA eA aA bA)
noncomputable def sh4 (s0:List UInt8) (cA:List Tok) (n8:Int) (dA:Int) (eA:Int) (aA:Int) (bA:Int) (k2:Y2):R :=
  chk (ile 0 n8&&ile n8 (Int.ofNat (List.length s0))&&ile (Int.ofNat (List.length s0)) (Int.ofNat (List.length s0))) (k2 (sub s0 n8 (Int.ofNat (List.length s0))) cA dA eA aA (IntKind.wrap .i64 (bA+n8)))
noncomputable def it2 (Kb1:Kont U El) (n:Nat):Kont U El:=iter nm2 (fun st' K'=>exec X (cdp [1,1,1,1,0,0,0] bd) (.seq none .d (.block (.seq none .d (.seq (some nm3) (.seq none .d (.block (.seq none .d (.cond .d (.seq none .d (.cond (.seq none .d (.seq none (.region [(7,6)]) .d)) (.seq none .d (.cond .d (.seq none .d (.cond (.seq none .d (.seq none .d (.cond (.seq none (.region [(2,3)]) .d) .d))) (.seq none .d (.cond .d (.seq none .d (.seq none .d (.cond (.seq none (.region [(2,3)]) .d) .d))))))))))))))) (.seq (some nm4) (.seq none .d (.cond (.region [(8,5)]) .d)) .d))))) st' K' (Eblk 0 (cutK nm1 Kb1) (fun _ _=>none)) RR) n
noncomputable def ct1:Kont U El:=fun st=>exec X (cdp [1,1,1,1,1] bd) .d st RR (fun _ _=>none) RR
noncomputable def ct3 (Kb1 Kb2:Kont U El):Kont U El:=fun st=>exec X (cdp [1,1,1,1,0,0,0,1,0,1,1] bd) (.seq (some nm4) (.seq none .d (.cond (.region [(8,5)]) .d)) .d) st (cutK nm2 Kb2) (Eblk 1 (cutK nm2 Kb2) (Eblk 0 (cutK nm1 Kb1) (fun _ _=>none))) RR
noncomputable def ct4 (Kb1 Kb2:Kont U El):Kont U El:=fun st=>exec X (cdp [1,1,1,1,0,0,0,1,0,1,1,1] bd) .d st (cutK nm2 Kb2) (Eblk 1 (cutK nm2 Kb2) (Eblk 0 (cutK nm1 Kb1) (fun _ _=>none))) RR
theorem P0 (s):exec X (cdp [] bd) (.seq none .d (.seq none .d (.seq none .d (.seq none .d (.seq (some nm1) (.block (.loop nm2 (.seq none .d (.block (.seq none .d (.seq (some nm3) (.seq none .d (.block (.seq none .d (.cond .d (.seq none .d (.cond (.seq none .d (.seq none (.region [(7,6)]) .d)) (.seq none .d (.cond .d (.seq none .d (.cond (.seq none .d (.seq none .d (.cond (.seq none (.region [(2,3)]) .d) .d))) (.seq none .d (.cond .d (.seq none .d (.seq none .d (.cond (.seq none (.region [(2,3)]) .d) .d))))))))))))))) (.seq (some nm4) (.seq none .d (.cond (.region [(8,5)]) .d)) .d))))))) .d))))) (fr0 s) RR (fun _ _=>none) RR=sh0 s (fun y0 y1 y2 y3 y4 y5=>(hid (it2 (hid ct1) 100000)) (fr2 y0 y1 y2 y3 y4 y5)):=by kernel_rfl
theorem P1 (cA dA eA aA bA):ct1 (fr1 cA dA eA aA bA)=sh1 cA dA eA aA bA:=by kernel_rfl
theorem P2 (s0 cA dA eA aA bA) (Kb1 Kb2:Kont U El):exec X (cdp [1,1,1,1,0,0,0] bd) (.seq none .d (.block (.seq none .d (.seq (some nm3) (.seq none .d (.block (.seq none .d (.cond .d (.seq none .d (.cond (.seq none .d (.seq none (.region [(7,6)]) .d)) (.seq none .d (.cond .d (.seq none .d (.cond (.seq none .d (.seq none .d (.cond (.seq none (.region [(2,3)]) .d) .d))) (.seq none .d (.cond .d (.seq none .d (.seq none .d (.cond (.seq none (.region [(2,3)]) .d) .d))))))))))))))) (.seq (some nm4) (.seq none .d (.cond (.region [(8,5)]) .d)) .d))))) (fr2 s0 cA dA eA aA bA) (cutK nm2 Kb2) (Eblk 0 (cutK nm1 Kb1) (fun _ _=>none)) RR=sh2 s0 cA dA eA aA bA (fun y0 y1 y2 y3 y4=>Kb1 (fr1 y0 y1 y2 y3 y4)) (fun y0 y1 y2 y3 y4 y5=>Kb2 (fr2 y0 y1 y2 y3 y4 y5)) (fun y0 y1 y2 y3 y4 y5 y6 y7=>(hid (ct3 Kb1 Kb2)) (fr3 y0 y1 y2 y3 y4 y5 y6 y7)):=by kernel_rfl
theorem P3 (s0 cA fA n8 dA eA aA bA) (Kb1 Kb2:Kont U El):ct3 Kb1 Kb2 (fr3 s0 cA fA n8 dA eA aA bA)=sh3 s0 cA fA n8 dA eA aA bA (fun y0 y1 y2 y3 y4 y5 y6=>(hid (ct4 Kb1 Kb2)) (fr4 y0 y1 y2 y3 y4 y5 y6)):=by kernel_rfl
theorem P4 (s0 cA n8 dA eA aA bA) (Kb1 Kb2:Kont U El):ct4 Kb1 Kb2 (fr4 s0 cA n8 dA eA aA bA)=sh4 s0 cA n8 dA eA aA bA (fun y0 y1 y2 y3 y4 y5=>Kb2 (fr2 y0 y1 y2 y3 y4 y5)):=by kernel_rfl
noncomputable def f1 (cA:List Tok) (dA:Int) (eA:Int) (aA:Int) (bA:Int):R:=sh1 cA dA eA aA bA
noncomputable def f4 (k2:Y2) (s0:List UInt8) (cA:List Tok) (n8:Int) (dA:Int) (eA:Int) (aA:Int) (bA:Int):R:=sh4 s0 cA n8 dA eA aA bA k2
noncomputable def f3 (k2:Y2) (s0:List UInt8) (cA:List Tok) (fA:Int) (n8:Int) (dA:Int) (eA:Int) (aA:Int) (bA:Int):R:=sh3 s0 cA fA n8 dA eA aA bA (f4 k2)
noncomputable def f2:Nat→Y2
  | 0=>fun _ _ _ _ _ _=>none
  | n+1=>fun s0 cA dA eA aA bA=>sh2 s0 cA dA eA aA bA f1 (f2 n) (f3 (f2 n))
noncomputable def f0 (s:List UInt8):R:=sh0 s (f2 100000)
theorem T1 (cA dA eA aA bA):(hid ct1) (fr1 cA dA eA aA bA)=f1 cA dA eA aA bA:=by
  refine (congrFun (hid_eq _) _).trans <| (P1 cA dA eA aA bA).trans ?_
  show _=sh1 cA dA eA aA bA
  rfl
theorem T4 (KL2:Kont U El) (k2:Y2) (h2:∀ s0 cA dA eA aA bA,KL2 (fr2 s0 cA dA eA aA bA)=k2 s0 cA dA eA aA bA) (s0 cA n8 dA eA aA bA):(hid (ct4 (hid ct1) KL2)) (fr4 s0 cA n8 dA eA aA bA)=f4 k2 s0 cA n8 dA eA aA bA:=by
  refine (congrFun (hid_eq _) _).trans <| (P4 s0 cA n8 dA eA aA bA (hid ct1) KL2).trans ?_
  show _=sh4 s0 cA n8 dA eA aA bA k2
  simp only [h2]
theorem T3 (KL2:Kont U El) (k2:Y2) (h2:∀ s0 cA dA eA aA bA,KL2 (fr2 s0 cA dA eA aA bA)=k2 s0 cA dA eA aA bA) (s0 cA fA n8 dA eA aA bA):(hid (ct3 (hid ct1) KL2)) (fr3 s0 cA fA n8 dA eA aA bA)=f3 k2 s0 cA fA n8 dA eA aA bA:=by
  refine (congrFun (hid_eq _) _).trans <| (P3 s0 cA fA n8 dA eA aA bA (hid ct1) KL2).trans ?_
  show _=sh3 s0 cA fA n8 dA eA aA bA (f4 k2)
  simp only [T4 KL2 k2 h2]
theorem T2:∀ (n:Nat),∀ s0 cA dA eA aA bA,it2 (hid ct1) n (fr2 s0 cA dA eA aA bA)=f2 n s0 cA dA eA aA bA:=by
  intro n
  induction n with
  | zero=>intros; rfl
  | succ n ih =>
    intro s0 cA dA eA aA bA
    refine (P2 s0 cA dA eA aA bA (hid ct1) (it2 (hid ct1) n)).trans ?_
    show _=sh2 s0 cA dA eA aA bA f1 (f2 n) (f3 (f2 n))
    simp only [T1,ih,T3 (it2 (hid ct1) n) (f2 n) ih]
theorem H2 (s0 cA dA eA aA bA):hid (it2 (hid ct1) 100000) (fr2 s0 cA dA eA aA bA)=f2 100000 s0 cA dA eA aA bA:=(congrFun (hid_eq _) _).trans (T2 100000 s0 cA dA eA aA bA)
theorem T0 (s):exec X bd (.seq none .d (.seq none .d (.seq none .d (.seq none .d (.seq (some nm1) (.block (.loop nm2 (.seq none .d (.block (.seq none .d (.seq (some nm3) (.seq none .d (.block (.seq none .d (.cond .d (.seq none .d (.cond (.seq none .d (.seq none (.region [(7,6)]) .d)) (.seq none .d (.cond .d (.seq none .d (.cond (.seq none .d (.seq none .d (.cond (.seq none (.region [(2,3)]) .d) .d))) (.seq none .d (.cond .d (.seq none .d (.seq none .d (.cond (.seq none (.region [(2,3)]) .d) .d))))))))))))))) (.seq (some nm4) (.seq none .d (.cond (.region [(8,5)]) .d)) .d))))))) .d))))) (fr0 s) RR (fun _ _=>none) RR=f0 s:=by
  refine (P0 s).trans ?_
  show _=sh0 s (f2 100000)
  simp only [H2]
theorem run (s):runFnC X bd (.seq none .d (.seq none .d (.seq none .d (.seq none .d (.seq (some nm1) (.block (.loop nm2 (.seq none .d (.block (.seq none .d (.seq (some nm3) (.seq none .d (.block (.seq none .d (.cond .d (.seq none .d (.cond (.seq none .d (.seq none (.region [(7,6)]) .d)) (.seq none .d (.cond .d (.seq none .d (.cond (.seq none .d (.seq none .d (.cond (.seq none (.region [(2,3)]) .d) .d))) (.seq none .d (.cond .d (.seq none .d (.seq none .d (.cond (.seq none (.region [(2,3)]) .d) .d))))))))))))))) (.seq (some nm4) (.seq none .d (.cond (.region [(8,5)]) .d)) .d))))))) .d))))) nmR [(3,54)] [2,92,4] [] [(.str s)]=f0 s:=T0 s
theorem f3_eq (n:Nat) (s:List UInt8) (out:List Tok) (k:Int) (m:Nat) (a b l c:Int) (hs:s.length≤90000) (hm:m≤s.length) (hc:0≤c) (hc2:c+s.length≤100000) (ho:out.length≤100000) :
    f3 (f2 n) s out k (Int.ofNat m) a b l c=bif k == 0 then f2 n (s.drop m) out a b l (c+Int.ofNat m) else f2 n (s.drop m) (out++[⟨k,s.take m,l,c⟩]) a b l (c+Int.ofNat m):=by
  have h4:∀ o,f4 (f2 n) s o (Int.ofNat m) a b l c=f2 n (s.drop m) o a b l (c+Int.ofNat m):=fun o=>by
    show sh4 s o (Int.ofNat m) a b l c (f2 n)=_
    unfold sh4
    rw [ileT (show (0:Int)≤Int.ofNat m by simp),ileT (show Int.ofNat m≤Int.ofNat s.length by simp; omega),ileT (show Int.ofNat s.length≤Int.ofNat s.length from Int.le_refl _),wrapI (by simp; omega) (by simp; omega)]
    simp only [Bool.and_self,chkT]
    have:sub s (Int.ofNat m) (Int.ofNat s.length)=s.drop m:=by
      unfold sub
      show List.take (s.length - m) (List.drop m s)=List.drop m s
      exact List.take_of_length_le (by simp)
    rw [this]
  show sh3 s out k (Int.ofNat m) a b l c (f4 (f2 n))=_
  unfold sh3
  rw [h4,h4,ileT (show (0:Int)≤0 from Int.le_refl _),ileT (show (0:Int)≤Int.ofNat m by simp),ileT (show Int.ofNat m≤Int.ofNat s.length by simp; omega),nleT (by simp; omega),nleT (by simp; omega)]
  simp only [Bool.and_self,chkT]
  have:sub s 0 (Int.ofNat m)=s.take m:=by
    unfold sub
    simp
  rw [this]
  have hb:(k != (0:Int)) = !(k == 0):=rfl
  rw [hb]
  cases k == 0<;>rfl
theorem loop : ∀ (m n : Nat) (s : List UInt8) (out : List Tok) (a b l c : Int), s.length < m → m ≤ n → s.length ≤ 90000 → 0 ≤ l → l + s.length ≤ 100000 → 0 ≤ c → c + s.length ≤ 100000 → out.length + s.length ≤ 99999 → f2 n s out a b l c = outTK out (tokR m s l c) := by
  intro m
  induction m with
  | zero=>intro n s out a b l c h; omega
  | succ m ih =>
    intro n s out a b l c h1 h2 h3 h4 h5 h6 h7 h8
    obtain ⟨n,rfl⟩:∃ n',n=n'+1:=⟨n - 1,by omega⟩
    show sh2 s out a b l c f1 (f2 n) (f3 (f2 n))=_
    unfold sh2
    cases s with
    | nil =>
      show sh1 out a b l c=_
      unfold sh1
      rw [nleT (by simp; omega),nleT (by simp; omega)]
      rfl
    | cons x r =>
      obtain ⟨hk1,hk2⟩:=kindN_le x r
      have hx:(x :: r == ([]:List UInt8))=false:=rfl
      rw [hx,inb0 (by simp)]
      simp only [Bool.not_false,condT,chkT]
      have hg:List.getD (x :: r) 0 0=x:=rfl
      rw [hg]
      have go:∀ (k:Int) (q:Nat),kindN (x :: r)=(k,q)→0≤k→k≠4→f3 (f2 n) (x :: r) out k (Int.ofNat q) a b l c=outTK out (tokR (m+1) (x :: r) l c):=fun k q hq hk hk4=>by
        rw [hq] at hk1 hk2
        simp only at hk1 hk2
        rw [f3_eq n (x :: r) out k q a b l c h3 hk1 h6 h7 (by omega)]
        unfold tokR
        rw [hq]
        simp only
        rw [iltF (by omega),show (k == 4)=false from beq_eq_false_iff_ne.2 hk4]
        have hd:((x :: r).drop q).length=(x :: r).length - q:=List.length_drop
        cases hk0:k == 0 with
        | true =>
          simp only [cond_true,cond_false]
          exact ih n _ out a b l _ (by omega) (by omega) (by omega) h4 (by omega) (by simp; omega) (by simp only [Int.ofNat_eq_natCast]; omega) (by omega)
        | false =>
          simp only [cond_true,cond_false]
          rw [outTK_cons]
          exact ih n _ _ a b l _ (by omega) (by omega) (by omega) h4 (by omega) (by simp; omega) (by simp only [Int.ofNat_eq_natCast]; omega) (by simp only [List.length_append,List.length_singleton]; omega)
      have bad:∀ q,kindN (x :: r)=(-1,q)→(some (.tup [.lst .tok [],.agg [.int .i64 l,.int .i64 c],.int .i64 7],[]):R)=outTK out (tokR (m+1) (x :: r) l c):=fun q hq=>by
        unfold tokR
        rw [hq]
        rfl
      have hkd:kindN (x :: r)=bif byI x == 32||byI x == 9 then (0,1) else bif byI x == 10 then (4,1) else bif byI x == 35 then (0,comN (x :: r)) else bif letterB (byI x) then (bif ilt 20 (wordD (x :: r)) then (-1,1) else (1,wordN (x :: r))) else bif digitB (byI x) then (2,numeralN (x :: r)) else bif symN (x :: r) == 0 then (-1,1) else (3,symN (x :: r)):=rfl
      cases q1:byI x == 32
      · cases q2 : byI x == 9
        · rw [q1, q2] at hkd
          simp only [Bool.or_self,cond_false] at hkd
          simp only [condF]
          cases q3:byI x == 10
          · rw [q3] at hkd
            simp only [cond_false,condF] at hkd ⊢
            cases q4:byI x == 35
            · rw [q4] at hkd
              simp only [cond_false,condF] at hkd ⊢
              cases q5:letterB (byI x)
              · rw [q5] at hkd
                simp only [cond_false,condF] at hkd ⊢
                cases q6:digitB (byI x)
                · rw [q6] at hkd
                  simp only [cond_false,condF] at hkd ⊢
                  rw [nleT h3,nltT (by simp)]
                  simp only [Bool.and_self,chkT]
                  have hz:(symD (x :: r) == (0:Int))=(symN (x :: r) == 0):=by unfold symD; rw [Bool.eq_iff_iff]; simp
                  rw [hz]
                  cases q7:symN (x :: r) == 0
                  · rw [q7] at hkd
                    exact go 3 _ hkd (by decide) (by decide)
                  · rw [q7] at hkd
                    exact bad _ hkd
                · rw [q6] at hkd
                  simp only [cond_true,condT] at hkd ⊢
                  rw [nleT h3]
                  exact go 2 _ hkd (by decide) (by decide)
              · rw [q5] at hkd
                simp only [cond_true,condT] at hkd ⊢
                rw [nleT h3]
                simp only [chkT]
                cases q7:ilt (20:Int) (wordD (x :: r))
                · rw [q7] at hkd
                  exact go 1 _ hkd (by decide) (by decide)
                · rw [q7] at hkd
                  exact bad _ hkd
            · rw [q4] at hkd
              simp only [cond_true,condT] at hkd ⊢
              have hgo:=go 0 _ hkd (by decide) (by decide)
              rcases idx_com (x :: r) with ⟨e1,e2⟩ | ⟨e1,e2⟩
              · rw [e1, iltT (by decide)]
                rw [e2] at hgo
                exact hgo
              · rw [e1, iltF (by simp)]
                exact hgo
          · rw [q3] at hkd
            simp only [cond_true,condT] at hkd ⊢
            rw [nleT (by simp; omega),nleT (by simp; omega),ileT (show (0:Int)≤1 by decide),ileT (show (1:Int)≤Int.ofNat (x :: r).length by simp; omega),ileT (show Int.ofNat (x :: r).length≤Int.ofNat (x :: r).length from Int.le_refl _),wrapI (by omega) (by omega)]
            simp only [Bool.and_self,chkT]
            have:sub (x :: r) 1 (Int.ofNat (x :: r).length)=r:=by
              unfold sub
              simp
            rw [this]
            unfold tokR
            rw [hkd]
            simp only
            rw [iltF (by decide)]
            simp only [cond_false,beq_self_eq_true,cond_true]
            rw [outTK_cons]
            simp only [List.length_cons] at h1 h3 h5 h7 h8
            exact ih n r _ a b _ _ (by omega) (by omega) (by omega) (by omega) (by omega) (by decide) (by omega) (by simp only [List.length_append,List.length_singleton]; omega)
        · rw [q1, q2] at hkd
          simp only [condF,condT]
          exact go 0 1 hkd (by decide) (by decide)
      · rw [q1] at hkd
        simp only [condT]
        exact go 0 1 hkd (by decide) (by decide)
theorem f0_eq (s:List UInt8) (h:nle (List.length s) 90000=true):f0 s=some (.tup [.lst .tok (tokL s),.agg [.int .i64 (tokP s).pl,.int .i64 (tokP s).pc],.int .i64 (tokE s)],[]):=by
  have hl:=nleI h
  show sh0 s (f2 100000)=_
  unfold sh0
  have hi:ilt (262144:Int) (Int.ofNat s.length)=false:=iltF (by simp; omega)
  rw [hi]
  simp only [condF]
  rw [loop (s.length+1) 100000 s [] 0 0 1 1 (by omega) (by omega) hl (by decide) (by omega) (by decide) (by omega) (by simp; omega)]
  have he:tokE s=bif (tokS s).bad then 7 else 0:=by unfold tokE; rw [hi]; rfl
  unfold tokL tokP
  rw [he]
  show outTK [] (tokS s)=_
  unfold outTK
  cases (tokS s).bad<;>rfl
theorem ok:CtxOk Tryd.prog X:=ctxOk tab (spC letter.spOk (spC word.spOk (spC idxb.spOk (spC digit.spOk (spC numeral.spOk (spC symbol.spOk spN)))))) dpN
theorem okM:MOk Tryd.prog X:=fun g sp h=>by cases h
theorem spec (s:List UInt8) (h:(nle (List.length s) 90000)=true):CallSpec Tryd.prog E 42 [(.str s)] (.tup [(.lst .tok (tokL s)),(.agg [(.int .i64 ((tokP s).pl)),(.int .i64 ((tokP s).pc))]),(.int .i64 (tokE s))]) [] :=
  runFnC_sound ok okM Tryd.call42 Tryd.func42 (by kernel_rfl) (by kernel_rfl) (by kernel_rfl) (by show 1≤92; decide) (by decide) (by rfl) ((run s).trans (f0_eq s h))
noncomputable def sp:Sp U El:=fun args k=>match args with
  | [.str s]=>chk (nle (List.length s) 90000) (k (.tup [(.lst .tok (tokL s)),(.agg [(.int .i64 ((tokP s).pl)),(.int .i64 ((tokP s).pc))]),(.int .i64 (tokE s))]) [])
  | _=>none
theorem spOk:SpOk Tryd.prog E 42 sp where
  det:=fun vs=>by
    unfold sp
    split
    · exact det_c _ _ _
    · exact ⟨none,fun _=>rfl⟩
  ok:=fun vs k r h=>by
    unfold sp at h
    split at h
    · obtain ⟨h1, h2⟩ := chk_some h
      exact ⟨_,_,spec _ h1,h2⟩
    · cases h
end tokens
end Go.Proofs.YtlkfbblapimhoaaDoor
