/- Lines of numbers: the code's and the document's readers. -/
import Derived.Test.YtnofdcckddfooaaGreatDoorSQ
namespace Go.Proofs.YtnofdcckddfooaaGreatDoor
set_option linter.unusedSectionVars false
set_option linter.unusedSimpArgs false
set_option linter.unusedVariables false
set_option maxRecDepth 100000
theorem index_mid (a:UInt8) (sub r:List UInt8):∀ x:List UInt8,a ∉ x→Lib.index (x++(a :: sub++r)) (a :: sub)=(x.length:Int):=by
  intro x
  induction x with
  | nil =>
    intro _
    show Lib.index (a :: (sub++r)) (a :: sub)=0
    unfold Lib.index
    have:(a :: sub).isPrefixOf (a :: (sub++r))=true:=by
      rw [List.isPrefixOf_iff_prefix]
      exact ⟨r,rfl⟩
    rw [if_pos this]
  | cons b x ih =>
    intro h
    have hb:(a :: sub).isPrefixOf (b :: (x++(a :: sub++r)))=false:=by
      have:(a == b)=false:=beq_eq_false_iff_ne.2 fun e=>h (by rw [e]; exact List.mem_cons_self ..)
      simp only [List.isPrefixOf,this,Bool.false_and]
    show Lib.index (b :: (x++(a :: sub++r))) (a :: sub)=_
    unfold Lib.index
    rw [hb,ih fun e=>h (List.mem_cons_of_mem _ e)]
    have:(((x.length:Nat):Int) == -1)=false:=beq_eq_false_iff_ne.2 (by omega)
    rw [this]
    simp
theorem splitL_none (c:UInt8) (s:List UInt8) (h:c ∉ s):splitL s [c]=[s]:=by
  show Lib.splitK [c] 0 (Lib.count s [c]) s=_
  rw [Lib.count_miss (by rw [index_none c [] s h])]
  rfl
theorem splitL_cons (c:UInt8) (x r:List UInt8) (h:c ∉ x):splitL (x++(c :: r)) [c]=x :: splitL r [c]:=by
  show Lib.splitK [c] 0 (Lib.count (x++(c :: r)) [c]) (x++(c :: r))=x :: Lib.splitK [c] 0 (Lib.count r [c]) r
  have hi:Lib.index (x++(c :: r)) [c]=(x.length:Int):=index_mid c [] r x h
  have hd:List.drop (x.length+([c]:List UInt8).length) (x++(c :: r))=r:=by
    rw [show x++(c :: r)=(x++[c])++r by simp,List.drop_append_of_le_length (by simp)]
    simp
  rw [Lib.count_hit (by simp) hi,hd,Nat.add_comm]
  simp only [Lib.splitK]
  rw [hi,toNat_nat,hd]
  have:(((x.length:Nat):Int) == -1)=false:=beq_eq_false_iff_ne.2 (by omega)
  rw [this]
  simp
theorem parts (c : UInt8) : ∀ s : List UInt8, c ∉ s ∨ ∃ x r, c ∉ x ∧ s = x ++ c :: r := by
  intro s
  induction s with
  | nil=>exact .inl (by simp)
  | cons a s ih =>
    by_cases h:a=c
    · exact .inr ⟨[],s,by simp,by rw [h]; rfl⟩
    · rcases ih with ih | ⟨x, r, h1, h2⟩
      · exact .inl fun e=>by
          rcases List.mem_cons.1 e with e | e
          · exact h e.symm
          · exact ih e
      · refine .inr ⟨a :: x, r, fun e => ?_, by rw [h2]; rfl⟩
        rcases List.mem_cons.1 e with e | e
        · exact h e.symm
        · exact h1 e
theorem split_len (c : UInt8) : ∀ (k : Nat) (s : List UInt8), s.length ≤ k → (splitL s [c]).length ≤ s.length + 1 ∧ ∀ x ∈ splitL s [c], x.length ≤ s.length := by
  intro k
  induction k with
  | zero =>
    intro s h
    have:s=[]:=List.length_eq_zero_iff.1 (by omega)
    subst this
    rw [splitL_none c [] (by simp)]
    simp
  | succ k ih =>
    intro s h
    rcases parts c s with hs | ⟨x,r,hx,rfl⟩
    · rw [splitL_none c s hs]
      exact ⟨by simp,fun x hx=>by rw [List.mem_singleton] at hx; rw [hx]; exact Nat.le_refl _⟩
    · rw [splitL_cons c x r hx]
      simp only [List.length_append,List.length_cons] at h ⊢
      obtain ⟨i1,i2⟩:=ih r (by omega)
      refine ⟨by omega,fun y hy => ?_⟩
      rcases List.mem_cons.1 hy with rfl | hy
      · omega
      · have := i2 y hy
        omega
noncomputable def nums:List (List UInt8)→Option (List Int)
  | []=>some []
  | x :: l => match numO x with
    | none=>none
    | some n => match nums l with
      | none=>none
      | some r=>some (n :: r)
theorem nums_len : ∀ (l : List (List UInt8)) (r : List Int), nums l = some r → r.length = l.length := by
  intro l
  induction l with
  | nil=>intro r h; cases h; rfl
  | cons x l ih =>
    intro r h
    simp only [nums] at h
    cases h1:numO x with
    | none=>rw [h1] at h; cases h
    | some n =>
      rw [h1] at h
      cases h2:nums l with
      | none=>rw [h2] at h; cases h
      | some q =>
        rw [h2] at h
        cases h
        simp only [List.length_cons,ih q h2]
noncomputable def lineO (w s:List UInt8):Option (List Int):=match splitL s [32] with
  | []=>none
  | x :: l=>bif (x == w) && !l.isEmpty then nums l else none
noncomputable def numB (w s:List UInt8) (n:Int):Bool:=match lineO w s with
  | none=>false
  | some r=>Int.ofNat r.length == n
noncomputable def rdL (w s:List UInt8):List Int:=(lineO w s).getD []
noncomputable def numL (w s:List UInt8) (n:Int):List Int:=bif numB w s n then rdL w s else []
noncomputable def wordB (w:List UInt8) (n:Int):Bool:=nle (List.length w) 1000&&(!(List.elem 32 w)&&(ile 1 n&&ile n 1000))
theorem num_none {w s:List UInt8} {n:Int} (h:lineO w s=none):numB w s n=false∧numL w s n=[]:=by
  have:numB w s n=false:=by unfold numB; rw [h]
  exact ⟨this,by unfold numL; rw [this]; rfl⟩
theorem num_yes {w s:List UInt8} {n:Int} {r:List Int} (h:lineO w s=some r) (hl:Int.ofNat r.length=n):numB w s n=true∧numL w s n=r:=by
  have:numB w s n=true:=by unfold numB; rw [h]; exact beq_iff_eq.2 hl
  exact ⟨this,by unfold numL rdL; rw [this,h]; rfl⟩
theorem num_bad {w s:List UInt8} {n:Int} {r:List Int} (h:lineO w s=some r) (hl:Int.ofNat r.length≠n):numB w s n=false∧numL w s n=[]:=by
  have:numB w s n=false:=by unfold numB; rw [h]; exact beq_eq_false_iff_ne.2 hl
  exact ⟨this,by unfold numL; rw [this]; rfl⟩
noncomputable def outL2 (l:List Int) (b:Bool):R:=some ((.tup [(.lst .int l),(.bool b)]),[])
namespace numbers
noncomputable def bd:Code:=(Tryz.f59.body).getD .skip
noncomputable def X:Ctx U El:=⟨E,tds,zeros,eqs,specOf [(86,split.sp),(87,spanP.sp)],100000,56,dspecOf [],fun _=>none⟩
noncomputable def nmR:Norm U:=⟨[],[6,7],[],[(6,.int)],[],[],[]⟩
noncomputable def RR:Kont U El:=fun st=>normK nmR st (retFin [6,7] [])
noncomputable def nm1:Norm U:=⟨[],[8],[],[],[],[],[]⟩
noncomputable def nm2:Norm U:=⟨[(9,.int)],[9],[9],[],[],[],[]⟩
noncomputable def nm3:Norm U:=⟨[(9,.int)],[9,29,30,31],[9],[],[],[],[]⟩
noncomputable def nm4:Norm U:=⟨[(9,.int)],[9,29,30,31],[9],[],[],[],[]⟩
noncomputable def nm5:Norm U:=⟨[(9,.int)],[9,12,29,30,31],[9,12],[],[],[],[]⟩
abbrev Y1:=(List (List UInt8))→R
abbrev Y2:=(List Int)→R
abbrev Y3:=(List Int)→(List (List UInt8))→Int→Int→R
abbrev Y4:=(List Int)→(List (List UInt8))→Int→Int→R
abbrev Y5:=(List Int)→(List (List UInt8))→Int→Int→Span→R
noncomputable def fr0 (s:List UInt8) (w:List UInt8) (n:Int):St U El:=⟨[(0,(.str s)),(1,(.str w)),(2,(.int .i64 n))],[]⟩
noncomputable def fr1 (w8:List (List UInt8)):St U El:=⟨[(8,(.lst .str w8))],[]⟩
noncomputable def fr2 (aA:List Int):St U El:=⟨[(9,(.ful 9))],[(9,(.rows .int aA))]⟩
noncomputable def fr3 (aA:List Int) (cA:List (List UInt8)) (dA:Int) (bA:Int):St U El:=⟨[(9,(.ful 9)),(29,(.lst .str cA)),(30,(.int .i64 dA)),(31,(.int .i64 bA))],[(9,(.rows .int aA))]⟩
noncomputable def fr4 (aA:List Int) (cA:List (List UInt8)) (dA:Int) (bA:Int):St U El:=⟨[(9,(.ful 9)),(29,(.lst .str cA)),(30,(.int .i64 dA)),(31,(.int .i64 bA))],[(9,(.rows .int aA))]⟩
noncomputable def fr5 (aA:List Int) (cA:List (List UInt8)) (dA:Int) (bA:Int) (eA:Span):St U El:=⟨[(9,(.ful 9)),(12,(.ptr 12 0)),(29,(.lst .str cA)),(30,(.int .i64 dA)),(31,(.int .i64 bA))],[(9,(.rows .int aA)),(12,(.box 0 [(.int .i64 eA.slo),(.int .i64 eA.shi)]))]⟩
noncomputable def sh0 (s:List UInt8) (w:List UInt8) (n:Int) (k1:Y1):R :=
  chk ((nle (List.length s) 300000&&nlt 0 (List.length ([32]:List UInt8)))) (condB ((Int.ofNat (List.length (splitL s ([32]:List UInt8)))) != (IntKind.wrap .i64 (n+(1:Int)))) (some ((.tup [(.lst .int ([]:List Int)),(.bool false)]),[])) (chk (inb (0:Int) (List.length (splitL s ([32]:List UInt8)))) (condB (!((List.getD (splitL s ([32]:List UInt8)) 0 d_str) == w)) (some ((.tup [(.lst .int ([]:List Int)),(.bool false)]),[])) (k1 (splitL s ([32]:List UInt8))))))
noncomputable def sh1 (w8:List (List UInt8)) (k3:Y3):R :=
  chk (ile 0 (1:Int)&&ile (1:Int) (Int.ofNat (List.length w8))&&ile (Int.ofNat (List.length w8)) (Int.ofNat (List.length w8))) (k3 ([]:List Int) (sub w8 (1:Int) (Int.ofNat (List.length w8))) (Int.ofNat (List.length (sub w8 (1:Int) (Int.ofNat (List.length w8))))) (0:Int))
noncomputable def sh2 (aA:List Int):R :=
  some ((.tup [(.lst .int aA),(.bool true)]),[])
noncomputable def sh3 (aA:List Int) (cA:List (List UInt8)) (dA:Int) (bA:Int) (k2:Y2) (k5:Y5):R :=
  condB (ilt bA dA) (chk (inb bA (List.length cA)) (chk (nle (List.length (List.getD cA (Int.toNat bA) d_str)) 300000) (condB ((spanE (List.getD cA (Int.toNat bA) d_str)) != (0:Int)) (some ((.tup [(.lst .int ([]:List Int)),(.bool false)]),[])) (condB ((spanR (List.getD cA (Int.toNat bA) d_str)).slo != (spanR (List.getD cA (Int.toNat bA) d_str)).shi) (some ((.tup [(.lst .int ([]:List Int)),(.bool false)]),[])) (k5 aA cA dA bA (spanR (List.getD cA (Int.toNat bA) d_str))))))) (k2 aA)
noncomputable def sh4 (aA:List Int) (cA:List (List UInt8)) (dA:Int) (bA:Int) (k3:Y3):R :=
  k3 aA cA dA (IntKind.wrap .i64 (bA+(1:Int)))
noncomputable def sh5 (aA:List Int) (cA:List (List UInt8)) (dA:Int) (bA:Int) (eA:Span) (k4:Y4):R :=
  chk (nle ((List.length aA+List.length ([eA.slo]:List Int)) * 8) 140737488355328&&nle (List.length aA+List.length ([eA.slo]:List Int)) 9223372036854775807) (k4 (aA++([eA.slo]:List Int)) cA dA bA)
noncomputable def it3 (Kb2:Kont U El) (n:Nat):Kont U El:=iter nm3 (fun st' K'=>exec X (cdp [1,1,1,1,0,1,0,0] bd) (.seq none .d (.seq none .d (.seq (some nm4) (.block (.seq none .d (.seq none .d (.seq (some nm5) .d .d)))) .d))) st' K' (Eblk 0 (cutK nm2 Kb2) (fun _ _=>none)) RR) n
noncomputable def ct1:Kont U El:=fun st=>exec X (cdp [1,1,1] bd) (.seq none .d (.seq (some nm2) (.seq none .d (.block (.loop nm3 (.seq none .d (.seq none .d (.seq (some nm4) (.block (.seq none .d (.seq none .d (.seq (some nm5) .d .d)))) .d)))))) .d)) st RR (fun _ _=>none) RR
noncomputable def ct2:Kont U El:=fun st=>exec X (cdp [1,1,1,1,1] bd) .d st RR (fun _ _=>none) RR
noncomputable def ct4 (Kb2 Kb3:Kont U El):Kont U El:=fun st=>exec X (cdp [1,1,1,1,0,1,0,0,1,1,1] bd) .d st (cutK nm3 Kb3) (Eblk 0 (cutK nm2 Kb2) (fun _ _=>none)) RR
noncomputable def ct5 (Kb2 Kb4:Kont U El):Kont U El:=fun st=>exec X (cdp [1,1,1,1,0,1,0,0,1,1,0,0,1,1,1] bd) .d st (cutK nm4 Kb4) (Eblk 1 (cutK nm4 Kb4) (Eblk 0 (cutK nm2 Kb2) (fun _ _=>none))) RR
theorem P0 (s w n):exec X (cdp [] bd) (.seq none .d (.seq none .d (.seq (some nm1) .d (.seq none .d (.seq (some nm2) (.seq none .d (.block (.loop nm3 (.seq none .d (.seq none .d (.seq (some nm4) (.block (.seq none .d (.seq none .d (.seq (some nm5) .d .d)))) .d)))))) .d))))) (fr0 s w n) RR (fun _ _=>none) RR=sh0 s w n (fun y0=>(hid ct1) (fr1 y0)):=by kernel_rfl
theorem P1 (w8):ct1 (fr1 w8)=sh1 w8 (fun y0 y1 y2 y3=>(hid (it3 (hid ct2) 100000)) (fr3 y0 y1 y2 y3)):=by kernel_rfl
theorem P2 (aA):ct2 (fr2 aA)=sh2 aA:=by kernel_rfl
theorem P3 (aA cA dA bA) (Kb2 Kb3:Kont U El):exec X (cdp [1,1,1,1,0,1,0,0] bd) (.seq none .d (.seq none .d (.seq (some nm4) (.block (.seq none .d (.seq none .d (.seq (some nm5) .d .d)))) .d))) (fr3 aA cA dA bA) (cutK nm3 Kb3) (Eblk 0 (cutK nm2 Kb2) (fun _ _=>none)) RR=sh3 aA cA dA bA (fun y0=>Kb2 (fr2 y0)) (fun y0 y1 y2 y3 y4=>(hid (ct5 Kb2 (hid (ct4 Kb2 Kb3)))) (fr5 y0 y1 y2 y3 y4)):=by kernel_rfl
theorem P4 (aA cA dA bA) (Kb2 Kb3:Kont U El):ct4 Kb2 Kb3 (fr4 aA cA dA bA)=sh4 aA cA dA bA (fun y0 y1 y2 y3=>Kb3 (fr3 y0 y1 y2 y3)):=by kernel_rfl
theorem P5 (aA cA dA bA eA) (Kb2 Kb4:Kont U El):ct5 Kb2 Kb4 (fr5 aA cA dA bA eA)=sh5 aA cA dA bA eA (fun y0 y1 y2 y3=>Kb4 (fr4 y0 y1 y2 y3)):=by kernel_rfl
noncomputable def f2 (aA:List Int):R:=sh2 aA
noncomputable def f4 (k3:Y3) (aA:List Int) (cA:List (List UInt8)) (dA:Int) (bA:Int):R:=sh4 aA cA dA bA k3
noncomputable def f5 (k3:Y3) (aA:List Int) (cA:List (List UInt8)) (dA:Int) (bA:Int) (eA:Span):R:=sh5 aA cA dA bA eA (f4 k3)
noncomputable def f3:Nat→Y3
  | 0=>fun _ _ _ _=>none
  | n+1=>fun aA cA dA bA=>sh3 aA cA dA bA f2 (f5 (f3 n))
noncomputable def f1 (w8:List (List UInt8)):R:=sh1 w8 (f3 100000)
noncomputable def f0 (s:List UInt8) (w:List UInt8) (n:Int):R:=sh0 s w n f1
theorem T2 (aA):(hid ct2) (fr2 aA)=f2 aA:=by
  refine (congrFun (hid_eq _) _).trans <| (P2 aA).trans ?_
  show _=sh2 aA
  rfl
theorem T4 (KL3:Kont U El) (k3:Y3) (h3:∀ aA cA dA bA,KL3 (fr3 aA cA dA bA)=k3 aA cA dA bA) (aA cA dA bA):(hid (ct4 (hid ct2) KL3)) (fr4 aA cA dA bA)=f4 k3 aA cA dA bA:=by
  refine (congrFun (hid_eq _) _).trans <| (P4 aA cA dA bA (hid ct2) KL3).trans ?_
  show _=sh4 aA cA dA bA k3
  simp only [h3]
theorem T5 (KL3:Kont U El) (k3:Y3) (h3:∀ aA cA dA bA,KL3 (fr3 aA cA dA bA)=k3 aA cA dA bA) (aA cA dA bA eA):(hid (ct5 (hid ct2) (hid (ct4 (hid ct2) KL3)))) (fr5 aA cA dA bA eA)=f5 k3 aA cA dA bA eA:=by
  refine (congrFun (hid_eq _) _).trans <| (P5 aA cA dA bA eA (hid ct2) (hid (ct4 (hid ct2) KL3))).trans ?_
  show _=sh5 aA cA dA bA eA (f4 k3)
  simp only [T4 KL3 k3 h3]
theorem T3:∀ (n:Nat),∀ aA cA dA bA,it3 (hid ct2) n (fr3 aA cA dA bA)=f3 n aA cA dA bA:=by
  intro n
  induction n with
  | zero=>intros; rfl
  | succ n ih =>
    intro aA cA dA bA
    refine (P3 aA cA dA bA (hid ct2) (it3 (hid ct2) n)).trans ?_
    show _=sh3 aA cA dA bA f2 (f5 (f3 n))
    simp only [T2,T5 (it3 (hid ct2) n) (f3 n) ih]
theorem H3 (aA cA dA bA):hid (it3 (hid ct2) 100000) (fr3 aA cA dA bA)=f3 100000 aA cA dA bA:=(congrFun (hid_eq _) _).trans (T3 100000 aA cA dA bA)
theorem T1 (w8):(hid ct1) (fr1 w8)=f1 w8:=by
  refine (congrFun (hid_eq _) _).trans <| (P1 w8).trans ?_
  show _=sh1 w8 (f3 100000)
  simp only [H3]
theorem T0 (s w n):exec X bd (.seq none .d (.seq none .d (.seq (some nm1) .d (.seq none .d (.seq (some nm2) (.seq none .d (.block (.loop nm3 (.seq none .d (.seq none .d (.seq (some nm4) (.block (.seq none .d (.seq none .d (.seq (some nm5) .d .d)))) .d)))))) .d))))) (fr0 s w n) RR (fun _ _=>none) RR=f0 s w n:=by
  refine (P0 s w n).trans ?_
  show _=sh0 s w n f1
  simp only [T1]
theorem run (s w n):runFn X bd (.seq none .d (.seq none .d (.seq (some nm1) .d (.seq none .d (.seq (some nm2) (.seq none .d (.block (.loop nm3 (.seq none .d (.seq none .d (.seq (some nm4) (.block (.seq none .d (.seq none .d (.seq (some nm5) .d .d)))) .d)))))) .d))))) nmR [6,7] [] [(.str s),(.str w),(.int .i64 n)]=f0 s w n:=T0 s w n
theorem loop (l : List (List UInt8)) (hl : l.length ≤ 90001) (hx : ∀ x ∈ l, x.length ≤ 90000) : ∀ (k i : Nat) (out : List Int), l.length < k + i → i ≤ l.length → out.length ≤ i → f3 k out l (Int.ofNat l.length) (i : Int) = (match nums (l.drop i) with | none => outL2 [] false | some r => outL2 (out ++ r) true) := by
  intro k
  induction k with
  | zero=>intro i out h1 h2; omega
  | succ k ih =>
    intro i out h1 h2 h3
    show sh3 out l (Int.ofNat l.length) (i:Int) f2 (f5 (f3 k))=_
    unfold sh3
    by_cases hi:i < l.length
    · rw [iltT (by simp; omega), condT, inbT hi, chkT, toNat_nat, getD_lt hi, nleT (show l[i].length ≤ 300000 by have := hx _ (List.getElem_mem hi); omega), chkT, drop_lt hi]
      simp only [nums]
      have hs:=span_num l[i]
      cases hn:numO l[i] with
      | none =>
        have hno:=numO_none.1 hn
        by_cases he:spanE l[i]=0
        · rw [he]
          have hne:(spanR l[i]).slo≠(spanR l[i]).shi:=fun e=>hno _ ((hs _).1 ⟨he,e,rfl⟩)
          rw [show ((0:Int) != 0)=false from rfl,condF,show ((spanR l[i]).slo != (spanR l[i]).shi)=true from bne_iff_ne.2 hne]
          rfl
        · rw [show (spanE l[i] != (0 : Int)) = true from bne_iff_ne.2 he]
          rfl
      | some n =>
        obtain ⟨g1,g2,g3⟩:=(hs n).2 (numO_some.1 hn)
        rw [g1,show ((0:Int) != 0)=false from rfl,condF,show ((spanR l[i]).slo != (spanR l[i]).shi)=false by rw [g2]; simp,condF]
        show sh5 out l (Int.ofNat l.length) (i:Int) (spanR l[i]) (f4 (f3 k))=_
        unfold sh5
        rw [nleT (by simp only [List.length_cons,List.length_nil]; omega),nleT (by simp only [List.length_cons,List.length_nil]; omega),Bool.and_self,chkT,g3]
        show f3 k (out++[n]) l (Int.ofNat l.length) (IntKind.wrap .i64 ((i:Int)+1))=_
        rw [wrapS i (by omega),ih (i+1) (out++[n]) (by omega) hi (by simp; omega)]
        cases nums (l.drop (i+1)) with
        | none=>rfl
        | some r=>simp
    · have : i = l.length := by omega
      subst this
      rw [iltF (by simp),condF,List.drop_length]
      simp only [nums,List.append_nil]
      rfl
theorem f0_eq (s w : List UInt8) (n : Int) (h : (nle (List.length s) 90000 && wordB w n) = true) : f0 s w n = some ((.tup [(.lst .int (numL w s n)), (.bool (numB w s n))]), []) := by
  simp only [wordB,Bool.and_eq_true] at h
  obtain ⟨h1,h2,h3,h4,h5⟩:=h
  have hs:=nleI h1
  have hn1:=ileI h4; have hn2:=ileI h5
  obtain ⟨q1,q2⟩:=split_len 32 s.length s (Nat.le_refl _)
  show sh0 s w n f1=outL2 (numL w s n) (numB w s n)
  unfold sh0
  rw [nleT (show s.length≤300000 by omega),show nlt 0 (List.length ([32]:List UInt8))=true from rfl,Bool.and_self,chkT,wrapI (by omega) (by omega)]
  cases hp:splitL s [32] with
  | nil =>
    have hL:lineO w s=none:=by unfold lineO; rw [hp]
    rw [(num_none hL).1,(num_none hL).2,show ((Int.ofNat (List.length ([]:List (List UInt8)))) != (n+1))=true from bne_iff_ne.2 (by simp; omega)]
    rfl
  | cons x l =>
    have hL:lineO w s=bif (x == w) && !l.isEmpty then nums l else none:=by unfold lineO; rw [hp]
    rw [hp] at q1 q2
    simp only [List.length_cons] at q1
    by_cases hlen:(Int.ofNat l.length)=n
    · have hne : l.isEmpty = false := by
        cases l with
        | nil=>simp at hlen; omega
        | cons a l=>rfl
      rw [hne] at hL
      rw [show ((Int.ofNat (List.length (x :: l))) != (n+1))=false by rw [← hlen]; simp,condF,inb0 (by simp),chkT]
      rw [show List.getD (x :: l) 0 d_str=x from rfl]
      cases hxw:x == w with
      | false =>
        rw [hxw] at hL
        rw [(num_none hL).1,(num_none hL).2]
        rfl
      | true =>
        rw [hxw] at hL
        have hL:lineO w s=nums l:=hL
        show sh1 (x :: l) (f3 100000)=_
        unfold sh1
        rw [ileT (show (0:Int)≤1 by omega),ileT (show (1:Int)≤Int.ofNat (x :: l).length by simp; omega),ileT (Int.le_refl _),Bool.and_self,Bool.and_self,chkT]
        have hsub:sub (x :: l) (1:Int) (Int.ofNat (x :: l).length)=l:=by
          unfold sub
          simp
        rw [hsub]
        refine (loop l (by omega) (fun y hy=>by have:=q2 y (List.mem_cons_of_mem _ hy); omega) 100000 0 [] (by omega) (by omega) (by simp)).trans ?_
        rw [List.drop_zero]
        cases hm:nums l with
        | none =>
          rw [hm] at hL
          rw [(num_none hL).1,(num_none hL).2]
        | some r =>
          rw [hm] at hL
          have:=num_yes hL (n:=n) (by rw [nums_len l r hm]; exact hlen)
          rw [this.1,this.2]
          rfl
    · rw [show ((Int.ofNat (List.length (x :: l))) != (n + 1)) = true from bne_iff_ne.2 (fun e => hlen (by simp at e ⊢; omega)), condT]
      have:numB w s n=false∧numL w s n=[]:=by
        cases hq:lineO w s with
        | none=>exact num_none hq
        | some r =>
          refine num_bad hq ?_
          rw [hq] at hL
          cases hc:(x == w) && !l.isEmpty with
          | false=>rw [hc] at hL; cases hL
          | true =>
            rw [hc] at hL
            rw [nums_len l r hL.symm]
            exact hlen
      rw [this.1,this.2]
      rfl
theorem ok:CtxOk Tryz.prog X:=ctxOk tab (spC split.spOk (spC spanP.spOk spN)) dpN
theorem okM:MOk Tryz.prog X:=fun g sp h=>by cases h
theorem spec (s:List UInt8) (w:List UInt8) (n:Int) (h:((nle (List.length s) 90000&&wordB w n))=true):CallSpec Tryz.prog E 59 [(.str s),(.str w),(.int .i64 n)] (.tup [(.lst .int (numL w s n)),(.bool (numB w s n))]) [] :=
  runFn_sound ok okM Tryz.call59 Tryz.func59 (by kernel_rfl) (by kernel_rfl) (by kernel_rfl) (by show 3≤56; decide) (by decide) (by rfl) ((run s w n).trans (f0_eq s w n h))
noncomputable def sp:Sp U El:=fun args k=>match args with
  | [.str s,.str w,.int .i64 n]=>chk ((nle (List.length s) 90000&&wordB w n)) (k (.tup [(.lst .int (numL w s n)),(.bool (numB w s n))]) [])
  | _=>none
theorem spOk:SpOk Tryz.prog E 59 sp where
  det:=fun vs=>by
    unfold sp
    split
    · exact det_c _ _ _
    · exact ⟨none,fun _=>rfl⟩
  ok:=fun vs k r h=>by
    unfold sp at h
    split at h
    · obtain ⟨h1, h2⟩ := chk_some h
      exact ⟨_,_,spec _ _ _ h1,h2⟩
    · cases h
end numbers
end Go.Proofs.YtnofdcckddfooaaGreatDoor
