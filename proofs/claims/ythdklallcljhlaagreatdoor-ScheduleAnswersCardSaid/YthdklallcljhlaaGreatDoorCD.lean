/- The document's closed streets, free crews, texts: what they compute. -/
import Derived.Test.YthdklallcljhlaaGreatDoorCC
namespace Go.Proofs.YthdklallcljhlaaGreatDoor
set_option linter.unusedSectionVars false
set_option linter.unusedSimpArgs false
set_option linter.unusedVariables false
set_option maxRecDepth 100000
theorem jM {l:List Work} {p:List Slot} (h:(az l 12 p == (0:Int)&&(okV l&&nle (List.length l) 12))=true):GP l p:=by
  simp only [Bool.and_eq_true,beq_iff_eq] at h
  exact gu h.1 (by unfold eX; rw [h.2.2]; rfl)
theorem byL_mem {xs:List Slot} {s:Slot}:s∈byL xs↔s∈xs:=(cg xs).mem_iff
theorem la (xs:List Slot):(byL xs).length=xs.length:=(cg xs).length_eq
noncomputable def bc (l:List Work) (p:List Slot) (st:List UInt8):List Span:=cU l (byL p) st
noncomputable def n8 (l:List Span):R:=some ((.ful 0),[(0,.rows .span l)])
theorem nv (l:List Work) (s:Slot) (S:List Slot) (st:List UInt8):cU l (s :: S) st=(bif mw l st s then [spT l s] else [])++cU l S st:=by
  unfold cU
  cases h:mw l st s with
  | true=>rw [List.filter_cons_of_pos h]; rfl
  | false=>rw [List.filter_cons_of_neg (by simp [h])]; rfl
namespace rclosed
noncomputable def bd:Code:=(Tryz.f14.body).getD .skip
noncomputable def X:Ctx U El:=⟨E,tds,zeros,eqs,aH [(49,rend.sp),(50,bystart.sp)],100000,49,aB [],fun _=>none⟩
noncomputable def nmR:Norm U:=⟨[(6,.span)],[6],[6],[],[],[],[]⟩
noncomputable def RR:ah U El:=fun st=>aL nmR st (aG [6] [6])
noncomputable def nm1:Norm U:=⟨[(8,.span)],[8],[8],[],[],[],[]⟩
noncomputable def nm2:Norm U:=⟨[(7,.slot),(8,.span)],[0,2,7,8,9],[7,8],[],[],[],[]⟩
noncomputable def nm3:Norm U:=⟨[(7,.slot),(8,.span)],[0,2,7,8,9],[7,8],[],[],[],[]⟩
abbrev Y1:=(List Span)→R
abbrev Y2:=(List Work)→(List UInt8)→(List Slot)→(List Span)→Int→R
abbrev Y3:=(List Work)→(List UInt8)→(List Slot)→(List Span)→Int→R
noncomputable def fr0 (l:List Work) (p:List Slot) (st:List UInt8):St U El:=⟨[(0,(.lst .work l)),(1,(.lst .slot p)),(2,(.str st))],[]⟩
noncomputable def fr1 (dA:List Span):St U El:=⟨[(8,(.ful 8))],[(8,(.rows .span dA))]⟩
noncomputable def fr2 (l0:List Work) (aA:List UInt8) (s7:List Slot) (dA:List Span) (i9:Int):St U El:=⟨[(0,(.lst .work l0)),(2,(.str aA)),(7,(.ful 7)),(8,(.ful 8)),(9,(.int .i64 i9))],[(7,(.rows .slot s7)),(8,(.rows .span dA))]⟩
noncomputable def fr3 (l0:List Work) (aA:List UInt8) (s7:List Slot) (dA:List Span) (i9:Int):St U El:=⟨[(0,(.lst .work l0)),(2,(.str aA)),(7,(.ful 7)),(8,(.ful 8)),(9,(.int .i64 i9))],[(7,(.rows .slot s7)),(8,(.rows .span dA))]⟩
noncomputable def sh0 (l:List Work) (p:List Slot) (st:List UInt8) (k2:Y2):R :=
  chk (nle (List.length p) 12) (k2 l st (byL p) ([]:List Span) (0:Int))
noncomputable def sh1 (dA:List Span):R :=
  some ((.ful 0),[(0,.rows .span dA)])
noncomputable def sh2 (l0:List Work) (aA:List UInt8) (s7:List Slot) (dA:List Span) (i9:Int) (k1:Y1) (k3:Y3):R :=
  af (ilt i9 (Int.ofNat (List.length s7))) (af (!(aA == ([]:List UInt8))) (chk (inb i9 (List.length s7)) (chk (nlt (Int.toNat i9) (List.length s7)) (chk (inb ((List.getD s7 (Int.toNat i9) aa).sw) (List.length l0)) (af (((List.getD l0 (Int.toNat ((List.getD s7 (Int.toNat i9) aa).sw)) ab).ws) == aA) (chk (inb i9 (List.length s7)) (chk (nlt (Int.toNat i9) (List.length s7)) (chk (inb i9 (List.length s7)) (chk (nlt (Int.toNat i9) (List.length s7)) (chk (inb (Slot.sw (List.getD s7 (Int.toNat i9) aa)) (List.length l0)) (chk (nle ((List.length dA+List.length ([(⟨(List.getD s7 (Int.toNat i9) aa).ss,(aV l0 (List.getD s7 (Int.toNat i9) aa))⟩:Span)]:List Span)) * 16) 140737488355328&&nle (List.length dA+List.length ([(⟨(List.getD s7 (Int.toNat i9) aa).ss,(aV l0 (List.getD s7 (Int.toNat i9) aa))⟩:Span)]:List Span)) 9223372036854775807) (k3 l0 aA s7 (dA++([(⟨(List.getD s7 (Int.toNat i9) aa).ss,(aV l0 (List.getD s7 (Int.toNat i9) aa))⟩:Span)]:List Span)) i9))))))) (k3 l0 aA s7 dA i9))))) (k3 l0 aA s7 dA i9)) (k1 dA)
noncomputable def sh3 (l0:List Work) (aA:List UInt8) (s7:List Slot) (dA:List Span) (i9:Int) (k2:Y2):R :=
  k2 l0 aA s7 dA (IntKind.wrap .i64 (i9+(1:Int)))
noncomputable def it2 (Kb1:ah U El) (n:Nat):ah U El:=bD nm2 (fun st' K'=>ak X (cdp [1,1,1,0,1,0,0] bd) (.seq none .d (.seq (some nm3) (.block (.seq none .d (.cond (.region [(14,8)]) .d))) .d)) st' K' (aC 0 (ap nm1 Kb1) (fun _ _=>none)) RR) n
noncomputable def ct1:ah U El:=fun st=>ak X (cdp [1,1,1,1] bd) .d st RR (fun _ _=>none) RR
noncomputable def ct3 (Kb1 Kb2:ah U El):ah U El:=fun st=>ak X (cdp [1,1,1,0,1,0,0,1,1] bd) .d st (ap nm2 Kb2) (aC 0 (ap nm1 Kb1) (fun _ _=>none)) RR
theorem P0 (l p st):ak X (cdp [] bd) (.seq none .d (.seq none .d (.seq none .d (.seq (some nm1) (.seq none .d (.block (.loop nm2 (.seq none .d (.seq (some nm3) (.block (.seq none .d (.cond (.region [(14,8)]) .d))) .d))))) .d)))) (fr0 l p st) RR (fun _ _=>none) RR=sh0 l p st (fun y0 y1 y2 y3 y4=>(hid (it2 (hid ct1) 100000)) (fr2 y0 y1 y2 y3 y4)):=by kernel_rfl
theorem P1 (dA):ct1 (fr1 dA)=sh1 dA:=by kernel_rfl
theorem P2 (l0 aA s7 dA i9) (Kb1 Kb2:ah U El):ak X (cdp [1,1,1,0,1,0,0] bd) (.seq none .d (.seq (some nm3) (.block (.seq none .d (.cond (.region [(14,8)]) .d))) .d)) (fr2 l0 aA s7 dA i9) (ap nm2 Kb2) (aC 0 (ap nm1 Kb1) (fun _ _=>none)) RR=sh2 l0 aA s7 dA i9 (fun y0=>Kb1 (fr1 y0)) (fun y0 y1 y2 y3 y4=>(hid (ct3 Kb1 Kb2)) (fr3 y0 y1 y2 y3 y4)):=by kernel_rfl
theorem P3 (l0 aA s7 dA i9) (Kb1 Kb2:ah U El):ct3 Kb1 Kb2 (fr3 l0 aA s7 dA i9)=sh3 l0 aA s7 dA i9 (fun y0 y1 y2 y3 y4=>Kb2 (fr2 y0 y1 y2 y3 y4)):=by kernel_rfl
noncomputable def f1 (dA:List Span):R:=sh1 dA
noncomputable def f3 (k2:Y2) (l0:List Work) (aA:List UInt8) (s7:List Slot) (dA:List Span) (i9:Int):R:=sh3 l0 aA s7 dA i9 k2
noncomputable def f2:Nat→Y2
  | 0=>fun _ _ _ _ _=>none
  | n+1=>fun l0 aA s7 dA i9=>sh2 l0 aA s7 dA i9 f1 (f3 (f2 n))
noncomputable def f0 (l:List Work) (p:List Slot) (st:List UInt8):R:=sh0 l p st (f2 100000)
theorem T1 (dA):(hid ct1) (fr1 dA)=f1 dA:=by
  refine (congrFun (am _) _).trans <| (P1 dA).trans ?_
  show _=sh1 dA
  rfl
theorem T3 (KL2:ah U El) (k2:Y2) (h2:∀ l0 aA s7 dA i9,KL2 (fr2 l0 aA s7 dA i9)=k2 l0 aA s7 dA i9) (l0 aA s7 dA i9):(hid (ct3 (hid ct1) KL2)) (fr3 l0 aA s7 dA i9)=f3 k2 l0 aA s7 dA i9:=by
  refine (congrFun (am _) _).trans <| (P3 l0 aA s7 dA i9 (hid ct1) KL2).trans ?_
  show _=sh3 l0 aA s7 dA i9 k2
  simp only [h2]
theorem T2:∀ (n:Nat),∀ l0 aA s7 dA i9,it2 (hid ct1) n (fr2 l0 aA s7 dA i9)=f2 n l0 aA s7 dA i9:=by
  intro n
  induction n with
  | zero=>intros; rfl
  | succ n ih =>
    intro l0 aA s7 dA i9
    refine (P2 l0 aA s7 dA i9 (hid ct1) (it2 (hid ct1) n)).trans ?_
    show _=sh2 l0 aA s7 dA i9 f1 (f3 (f2 n))
    simp only [T1,T3 (it2 (hid ct1) n) (f2 n) ih]
theorem H2 (l0 aA s7 dA i9):hid (it2 (hid ct1) 100000) (fr2 l0 aA s7 dA i9)=f2 100000 l0 aA s7 dA i9:=(congrFun (am _) _).trans (T2 100000 l0 aA s7 dA i9)
theorem T0 (l p st):ak X bd (.seq none .d (.seq none .d (.seq none .d (.seq (some nm1) (.seq none .d (.block (.loop nm2 (.seq none .d (.seq (some nm3) (.block (.seq none .d (.cond (.region [(14,8)]) .d))) .d))))) .d)))) (fr0 l p st) RR (fun _ _=>none) RR=f0 l p st:=by
  refine (P0 l p st).trans ?_
  show _=sh0 l p st (f2 100000)
  simp only [H2]
theorem run (l p st):aS X bd (.seq none .d (.seq none .d (.seq none .d (.seq (some nm1) (.seq none .d (.block (.loop nm2 (.seq none .d (.seq (some nm3) (.block (.seq none .d (.cond (.region [(14,8)]) .d))) .d))))) .d)))) nmR [6] [6] [(.lst .work l),(.lst .slot p),(.str st)]=f0 l p st:=T0 l p st
theorem loop (l : List Work) (st : List UInt8) (S : List Slot) (hl : S.length ≤ 12) (hS : ∀ s ∈ S, GS l s) : ∀ (n k : Nat) (out : List Span), S.length < n + k → k ≤ S.length → out.length ≤ k → f2 n l st S out (k : Int) = n8 (out ++ cU l (S.drop k) st) := by
  intro n
  induction n with
  | zero=>intro k out h1 h2; omega
  | succ n ih =>
    intro k out h1 h2 h3
    show sh2 l st S out (k:Int) f1 (f3 (f2 n))=_
    unfold sh2
    by_cases hk:k < S.length
    · have hg := hS _ (List.getElem_mem hk)
      have e3:∀ o,f3 (f2 n) l st S o (k:Int)=f2 n l st S o ((k+1:Nat):Int):=fun o=>by
        show f2 n l st S o (IntKind.wrap .i64 ((k:Int)+1))=_
        rw [bl k (by omega)]
      rw [bf (by simp; omega),bm,a8 hk,aw,j5 hk,aD hk,hg.sw,e3,e3,bn,bn,bn,bn,bn,bn,bn,bn,bz (show ((List.length out+List.length [(⟨S[k].ss,aV l S[k]⟩:Span)]) * 16)≤140737488355328 by simp; omega),bz (show (List.length out+List.length [(⟨S[k].ss,aV l S[k]⟩:Span)])≤9223372036854775807 by simp; omega),aZ hk,nv]
      unfold mw
      cases (!(st == ([]:List UInt8))) with
      | false =>
        rw [br,Bool.false_and,cond_false,List.nil_append]
        exact ih (k+1) out (by omega) hk (by omega)
      | true =>
        rw [bm]
        cases ((List.getD l (Int.toNat S[k].sw) ab).ws == st) with
        | false =>
          rw [br,Bool.and_false,cond_false,List.nil_append]
          exact ih (k+1) out (by omega) hk (by omega)
        | true =>
          rw [bm,Bool.and_self,bn,cond_true]
          refine Eq.trans (ih (k+1) (out++[(⟨S[k].ss,aV l S[k]⟩:Span)]) (by omega) hk (by simp; omega)) ?_
          rw [List.append_assoc]
          rfl
    · have : k = S.length := by omega
      subst this
      rw [a6 (by simp),br,List.drop_length]
      show n8 out=n8 (out++[])
      rw [List.append_nil]
theorem f0_eq (l:List Work) (p:List Slot) (st:List UInt8) (h:(az l 12 p == (0:Int)&&(okV l&&nle (List.length l) 12))=true):f0 l p st=n8 (bc l p st):=by
  have hG:=jM h
  have hn:=hG.n; have hlp:=hG.lp
  have hbl:=la p
  show sh0 l p st (f2 100000)=_
  unfold sh0
  rw [bz (show p.length≤12 by omega),bn]
  exact loop l st (byL p) (by omega) (fun s hs=>hG.sl s (byL_mem.1 hs)) 100000 0 [] (by omega) (by omega) (by simp)
theorem ok:CtxOk Tryz.prog X:=aO tab (spC rend.spOk (spC bystart.spOk spN)) dpN
theorem okM:MOk Tryz.prog X:=fun g sp h=>by cases h
theorem spec (l:List Work) (p:List Slot) (st:List UInt8) (h:((az l 12 p == (0:Int)&&(okV l&&nle (List.length l) 12)))=true):ar Tryz.prog E 14 [(.lst .work l),(.lst .slot p),(.str st)] (.ful 0) [(0,.rows .span (bc l p st))] :=
  al ok okM Tryz.call14 Tryz.func14 (by kernel_rfl) (by kernel_rfl) (by kernel_rfl) (by show 3≤49; decide) (by decide) (by rfl) ((run l p st).trans (f0_eq l p st h))
noncomputable def sp:Sp U El:=fun args k=>match args with
  | [.lst .work l,.lst .slot p,.str st]=>chk ((az l 12 p == (0:Int)&&(okV l&&nle (List.length l) 12))) (k (.ful 0) [(0,.rows .span (bc l p st))])
  | _=>none
theorem spOk:SpOk Tryz.prog E 14 sp where
  det:=fun vs=>by
    unfold sp
    split
    · exact ba _ _ _
    · exact ⟨none,fun _=>rfl⟩
  ok:=fun vs k r h=>by
    unfold sp at h
    split at h
    · obtain ⟨h1, h2⟩ := ae h
      exact ⟨_,_,spec _ _ _ h1,h2⟩
    · cases h
end rclosed
noncomputable def cK (l:List Work) (c h:Int) (s:Slot) (t:Int):Int:=bif s.sc == c then bif ilt s.ss (IntKind.wrap .i64 (t+h)) then bif ilt t (aV l s) then aV l s else t else t else t
noncomputable def dB (l:List Work) (c h:Int):List Slot→Int→Int
  | [],t=>t
  | s :: r,t=>dB l c h r (cK l c h s t)
noncomputable def dQ (l:List Work) (p:List Slot) (crew hours:Int):Int:=dB l crew hours (byL p) 0
namespace rfree
noncomputable def bd:Code:=(Tryz.f16.body).getD .skip
noncomputable def X:Ctx U El:=⟨E,tds,zeros,eqs,aH [(49,rend.sp),(50,bystart.sp)],100000,55,aB [],fun _=>none⟩
noncomputable def nmR:Norm U:=⟨[],[8],[],[],[],[],[]⟩
noncomputable def RR:ah U El:=fun st=>aL nmR st (aG [8] [])
noncomputable def nm1:Norm U:=⟨[],[10],[],[],[],[],[]⟩
noncomputable def nm2:Norm U:=⟨[(9,.slot)],[0,2,3,9,10,11],[9],[],[],[],[]⟩
noncomputable def nm3:Norm U:=⟨[(9,.slot)],[0,2,3,9,10,11],[9],[],[],[],[]⟩
abbrev Y1:=Int→R
abbrev Y2:=(List Work)→Int→Int→(List Slot)→Int→Int→R
abbrev Y3:=(List Work)→Int→Int→(List Slot)→Int→Int→R
noncomputable def fr0 (l:List Work) (p:List Slot) (crew:Int) (hours:Int):St U El:=⟨[(0,(.lst .work l)),(1,(.lst .slot p)),(2,(.int .i64 crew)),(3,(.int .i64 hours))],[]⟩
noncomputable def fr1 (fA:Int):St U El:=⟨[(10,(.int .i64 fA))],[]⟩
noncomputable def fr2 (l0:List Work) (cA:Int) (bA:Int) (s9:List Slot) (fA:Int) (gA:Int):St U El:=⟨[(0,(.lst .work l0)),(2,(.int .i64 cA)),(3,(.int .i64 bA)),(9,(.ful 9)),(10,(.int .i64 fA)),(11,(.int .i64 gA))],[(9,(.rows .slot s9))]⟩
noncomputable def fr3 (l0:List Work) (cA:Int) (bA:Int) (s9:List Slot) (fA:Int) (gA:Int):St U El:=⟨[(0,(.lst .work l0)),(2,(.int .i64 cA)),(3,(.int .i64 bA)),(9,(.ful 9)),(10,(.int .i64 fA)),(11,(.int .i64 gA))],[(9,(.rows .slot s9))]⟩
noncomputable def sh0 (l:List Work) (p:List Slot) (crew:Int) (hours:Int) (k2:Y2):R :=
  chk (nle (List.length p) 12) (k2 l crew hours (byL p) (0:Int) (0:Int))
noncomputable def sh1 (fA:Int):R :=
  some ((.int .i64 fA),[])
noncomputable def sh2 (l0:List Work) (cA:Int) (bA:Int) (s9:List Slot) (fA:Int) (gA:Int) (k1:Y1) (k3:Y3):R :=
  af (ilt gA (Int.ofNat (List.length s9))) (chk (inb gA (List.length s9)) (chk (nlt (Int.toNat gA) (List.length s9)) (af ((List.getD s9 (Int.toNat gA) aa).sc == cA) (chk (inb gA (List.length s9)) (chk (nlt (Int.toNat gA) (List.length s9)) (af (ilt ((List.getD s9 (Int.toNat gA) aa).ss) (IntKind.wrap .i64 (fA+bA))) (chk (inb gA (List.length s9)) (chk (nlt (Int.toNat gA) (List.length s9)) (chk (inb (Slot.sw (List.getD s9 (Int.toNat gA) aa)) (List.length l0)) (af (ilt fA (aV l0 (List.getD s9 (Int.toNat gA) aa))) (chk (inb gA (List.length s9)) (chk (nlt (Int.toNat gA) (List.length s9)) (chk (inb (Slot.sw (List.getD s9 (Int.toNat gA) aa)) (List.length l0)) (k3 l0 cA bA s9 (aV l0 (List.getD s9 (Int.toNat gA) aa)) gA)))) (k3 l0 cA bA s9 fA gA))))) (k3 l0 cA bA s9 fA gA)))) (k3 l0 cA bA s9 fA gA)))) (k1 fA)
noncomputable def sh3 (l0:List Work) (cA:Int) (bA:Int) (s9:List Slot) (fA:Int) (gA:Int) (k2:Y2):R :=
  k2 l0 cA bA s9 fA (IntKind.wrap .i64 (gA+(1:Int)))
noncomputable def it2 (Kb1:ah U El) (n:Nat):ah U El:=bD nm2 (fun st' K'=>ak X (cdp [1,1,1,0,1,0,0] bd) (.seq none .d (.seq (some nm3) .d .d)) st' K' (aC 0 (ap nm1 Kb1) (fun _ _=>none)) RR) n
noncomputable def ct1:ah U El:=fun st=>ak X (cdp [1,1,1,1] bd) .d st RR (fun _ _=>none) RR
noncomputable def ct3 (Kb1 Kb2:ah U El):ah U El:=fun st=>ak X (cdp [1,1,1,0,1,0,0,1,1] bd) .d st (ap nm2 Kb2) (aC 0 (ap nm1 Kb1) (fun _ _=>none)) RR
theorem P0 (l p crew hours):ak X (cdp [] bd) (.seq none .d (.seq none .d (.seq none .d (.seq (some nm1) (.seq none .d (.block (.loop nm2 (.seq none .d (.seq (some nm3) .d .d))))) .d)))) (fr0 l p crew hours) RR (fun _ _=>none) RR=sh0 l p crew hours (fun y0 y1 y2 y3 y4 y5=>(hid (it2 (hid ct1) 100000)) (fr2 y0 y1 y2 y3 y4 y5)):=by kernel_rfl
theorem P1 (fA):ct1 (fr1 fA)=sh1 fA:=by kernel_rfl
theorem P2 (l0 cA bA s9 fA gA) (Kb1 Kb2:ah U El):ak X (cdp [1,1,1,0,1,0,0] bd) (.seq none .d (.seq (some nm3) .d .d)) (fr2 l0 cA bA s9 fA gA) (ap nm2 Kb2) (aC 0 (ap nm1 Kb1) (fun _ _=>none)) RR=sh2 l0 cA bA s9 fA gA (fun y0=>Kb1 (fr1 y0)) (fun y0 y1 y2 y3 y4 y5=>(hid (ct3 Kb1 Kb2)) (fr3 y0 y1 y2 y3 y4 y5)):=by kernel_rfl
theorem P3 (l0 cA bA s9 fA gA) (Kb1 Kb2:ah U El):ct3 Kb1 Kb2 (fr3 l0 cA bA s9 fA gA)=sh3 l0 cA bA s9 fA gA (fun y0 y1 y2 y3 y4 y5=>Kb2 (fr2 y0 y1 y2 y3 y4 y5)):=by kernel_rfl
noncomputable def f1 (fA:Int):R:=sh1 fA
noncomputable def f3 (k2:Y2) (l0:List Work) (cA:Int) (bA:Int) (s9:List Slot) (fA:Int) (gA:Int):R:=sh3 l0 cA bA s9 fA gA k2
noncomputable def f2:Nat→Y2
  | 0=>fun _ _ _ _ _ _=>none
  | n+1=>fun l0 cA bA s9 fA gA=>sh2 l0 cA bA s9 fA gA f1 (f3 (f2 n))
noncomputable def f0 (l:List Work) (p:List Slot) (crew:Int) (hours:Int):R:=sh0 l p crew hours (f2 100000)
theorem T1 (fA):(hid ct1) (fr1 fA)=f1 fA:=by
  refine (congrFun (am _) _).trans <| (P1 fA).trans ?_
  show _=sh1 fA
  rfl
theorem T3 (KL2:ah U El) (k2:Y2) (h2:∀ l0 cA bA s9 fA gA,KL2 (fr2 l0 cA bA s9 fA gA)=k2 l0 cA bA s9 fA gA) (l0 cA bA s9 fA gA):(hid (ct3 (hid ct1) KL2)) (fr3 l0 cA bA s9 fA gA)=f3 k2 l0 cA bA s9 fA gA:=by
  refine (congrFun (am _) _).trans <| (P3 l0 cA bA s9 fA gA (hid ct1) KL2).trans ?_
  show _=sh3 l0 cA bA s9 fA gA k2
  simp only [h2]
theorem T2:∀ (n:Nat),∀ l0 cA bA s9 fA gA,it2 (hid ct1) n (fr2 l0 cA bA s9 fA gA)=f2 n l0 cA bA s9 fA gA:=by
  intro n
  induction n with
  | zero=>intros; rfl
  | succ n ih =>
    intro l0 cA bA s9 fA gA
    refine (P2 l0 cA bA s9 fA gA (hid ct1) (it2 (hid ct1) n)).trans ?_
    show _=sh2 l0 cA bA s9 fA gA f1 (f3 (f2 n))
    simp only [T1,T3 (it2 (hid ct1) n) (f2 n) ih]
theorem H2 (l0 cA bA s9 fA gA):hid (it2 (hid ct1) 100000) (fr2 l0 cA bA s9 fA gA)=f2 100000 l0 cA bA s9 fA gA:=(congrFun (am _) _).trans (T2 100000 l0 cA bA s9 fA gA)
theorem T0 (l p crew hours):ak X bd (.seq none .d (.seq none .d (.seq none .d (.seq (some nm1) (.seq none .d (.block (.loop nm2 (.seq none .d (.seq (some nm3) .d .d))))) .d)))) (fr0 l p crew hours) RR (fun _ _=>none) RR=f0 l p crew hours:=by
  refine (P0 l p crew hours).trans ?_
  show _=sh0 l p crew hours (f2 100000)
  simp only [H2]
theorem run (l p crew hours):aS X bd (.seq none .d (.seq none .d (.seq none .d (.seq (some nm1) (.seq none .d (.block (.loop nm2 (.seq none .d (.seq (some nm3) .d .d))))) .d)))) nmR [8] [] [(.lst .work l),(.lst .slot p),(.int .i64 crew),(.int .i64 hours)]=f0 l p crew hours:=T0 l p crew hours
theorem loop (l : List Work) (c h : Int) (S : List Slot) (hl : S.length ≤ 12) (hS : ∀ s ∈ S, GS l s) : ∀ (n k : Nat) (t : Int), S.length < n + k → k ≤ S.length → f2 n l c h S t (k : Int) = bO (dB l c h (S.drop k) t) := by
  intro n
  induction n with
  | zero=>intro k t h1 h2; omega
  | succ n ih =>
    intro k t h1 h2
    show sh2 l c h S t (k:Int) f1 (f3 (f2 n))=_
    unfold sh2
    by_cases hk:k < S.length
    · have hg := hS _ (List.getElem_mem hk)
      have e3:∀ o,f3 (f2 n) l c h S o (k:Int)=f2 n l c h S o ((k+1:Nat):Int):=fun o=>by
        show f2 n l c h S o (IntKind.wrap .i64 ((k:Int)+1))=_
        rw [bl k (by omega)]
      rw [bf (by simp; omega),bm,a8 hk,aw,j5 hk,aD hk,hg.sw,e3,e3,aZ hk]
      simp only [bn,dB,cK]
      cases (S[k].sc == c) with
      | false=>exact ih (k+1) t (by omega) hk
      | true =>
        cases ilt S[k].ss (IntKind.wrap .i64 (t+h)) with
        | false=>exact ih (k+1) t (by omega) hk
        | true =>
          cases ilt t (aV l S[k]) with
          | false=>exact ih (k+1) t (by omega) hk
          | true=>exact ih (k+1) (aV l S[k]) (by omega) hk
    · have : k = S.length := by omega
      subst this
      rw [a6 (by simp),br,List.drop_length]
      rfl
theorem f0_eq (l:List Work) (p:List Slot) (crew hours:Int) (h:((az l 12 p == (0:Int)&&(okV l&&nle (List.length l) 12))&&(ile 1 hours&&ile hours 1000))=true):f0 l p crew hours=bO (dQ l p crew hours):=by
  have hG:=jM (Bool.and_eq_true_iff.1 h).1
  have hn:=hG.n; have hlp:=hG.lp
  have hbl:=la p
  show sh0 l p crew hours (f2 100000)=_
  unfold sh0
  rw [bz (show p.length≤12 by omega),bn]
  exact loop l crew hours (byL p) (by omega) (fun s hs=>hG.sl s (byL_mem.1 hs)) 100000 0 0 (by omega) (by omega)
theorem ok:CtxOk Tryz.prog X:=aO tab (spC rend.spOk (spC bystart.spOk spN)) dpN
theorem okM:MOk Tryz.prog X:=fun g sp h=>by cases h
theorem spec (l:List Work) (p:List Slot) (crew:Int) (hours:Int) (h:(((az l 12 p == (0:Int)&&(okV l&&nle (List.length l) 12))&&(ile 1 hours&&ile hours 1000)))=true):ar Tryz.prog E 16 [(.lst .work l),(.lst .slot p),(.int .i64 crew),(.int .i64 hours)] (.int .i64 (dQ l p crew hours)) [] :=
  al ok okM Tryz.call16 Tryz.func16 (by kernel_rfl) (by kernel_rfl) (by kernel_rfl) (by show 4≤55; decide) (by decide) (by rfl) ((run l p crew hours).trans (f0_eq l p crew hours h))
noncomputable def sp:Sp U El:=fun args k=>match args with
  | [.lst .work l,.lst .slot p,.int .i64 crew,.int .i64 hours]=>chk (((az l 12 p == (0:Int)&&(okV l&&nle (List.length l) 12))&&(ile 1 hours&&ile hours 1000))) (k (.int .i64 (dQ l p crew hours)) [])
  | _=>none
theorem spOk:SpOk Tryz.prog E 16 sp where
  det:=fun vs=>by
    unfold sp
    split
    · exact ba _ _ _
    · exact ⟨none,fun _=>rfl⟩
  ok:=fun vs k r h=>by
    unfold sp at h
    split at h
    · obtain ⟨h1, h2⟩ := ae h
      exact ⟨_,_,spec _ _ _ _ h1,h2⟩
    · cases h
end rfree
noncomputable def eZ (l:List Work) (p:List Slot):List UInt8:=dz l (byL p)
namespace rtext
noncomputable def bd:Code:=(Tryz.f13.body).getD .skip
noncomputable def X:Ctx U El:=⟨E,tds,zeros,eqs,aH [(49,rend.sp),(50,bystart.sp),(51,format.sp)],100000,54,aB [],fun _=>none⟩
noncomputable def nmR:Norm U:=⟨[],[4],[],[],[],[],[]⟩
noncomputable def RR:ah U El:=fun st=>aL nmR st (aG [4] [])
noncomputable def nm1:Norm U:=⟨[],[6],[],[],[],[],[]⟩
noncomputable def nm2:Norm U:=⟨[(5,.slot)],[0,5,6,7],[5],[],[],[],[]⟩
abbrev Y1:=(List UInt8)→R
abbrev Y2:=(List Work)→(List Slot)→(List UInt8)→Int→R
noncomputable def fr0 (l:List Work) (p:List Slot):St U El:=⟨[(0,(.lst .work l)),(1,(.lst .slot p))],[]⟩
noncomputable def fr1 (eA:List UInt8):St U El:=⟨[(6,(.str eA))],[]⟩
noncomputable def fr2 (l0:List Work) (s5:List Slot) (eA:List UInt8) (i7:Int):St U El:=⟨[(0,(.lst .work l0)),(5,(.ful 5)),(6,(.str eA)),(7,(.int .i64 i7))],[(5,(.rows .slot s5))]⟩
noncomputable def sh0 (l:List Work) (p:List Slot) (k2:Y2):R :=
  chk (nle (List.length p) 12) (k2 l (byL p) ([]:List UInt8) (0:Int))
noncomputable def sh1 (eA:List UInt8):R :=
  some ((.str eA),[])
noncomputable def sh2 (l0:List Work) (s5:List Slot) (eA:List UInt8) (i7:Int) (k1:Y1) (k2:Y2):R :=
  af (ilt i7 (Int.ofNat (List.length s5))) (chk (inb i7 (List.length s5)) (chk (nlt (Int.toNat i7) (List.length s5)) (chk (inb ((List.getD s5 (Int.toNat i7) aa).sw) (List.length l0)) (chk (nle (List.length eA+List.length ((List.getD l0 (Int.toNat ((List.getD s5 (Int.toNat i7) aa).sw)) ab).wn)) 9223372036854775807) (chk (nle (List.length (eA++(List.getD l0 (Int.toNat ((List.getD s5 (Int.toNat i7) aa).sw)) ab).wn)+List.length ([32,99,114,101,119,32]:List UInt8)) 9223372036854775807) (chk (inb i7 (List.length s5)) (chk (nlt (Int.toNat i7) (List.length s5)) (chk ((ile (-1000000000000) ((List.getD s5 (Int.toNat i7) aa).sc)&&(ile ((List.getD s5 (Int.toNat i7) aa).sc) 1000000000000&&((0:Int) == (0:Int))))) (chk (nle (List.length ((eA++(List.getD l0 (Int.toNat ((List.getD s5 (Int.toNat i7) aa).sw)) ab).wn)++([32,99,114,101,119,32]:List UInt8))+List.length (Lib.itoa ((List.getD s5 (Int.toNat i7) aa).sc))) 9223372036854775807) (chk (nle (List.length (((eA++(List.getD l0 (Int.toNat ((List.getD s5 (Int.toNat i7) aa).sw)) ab).wn)++([32,99,114,101,119,32]:List UInt8))++(Lib.itoa ((List.getD s5 (Int.toNat i7) aa).sc)))+List.length ([32,102,114,111,109,32]:List UInt8)) 9223372036854775807) (chk (inb i7 (List.length s5)) (chk (nlt (Int.toNat i7) (List.length s5)) (chk ((ile (-1000000000000) ((List.getD s5 (Int.toNat i7) aa).ss)&&(ile ((List.getD s5 (Int.toNat i7) aa).ss) 1000000000000&&((0:Int) == (0:Int))))) (chk (nle (List.length ((((eA++(List.getD l0 (Int.toNat ((List.getD s5 (Int.toNat i7) aa).sw)) ab).wn)++([32,99,114,101,119,32]:List UInt8))++(Lib.itoa ((List.getD s5 (Int.toNat i7) aa).sc)))++([32,102,114,111,109,32]:List UInt8))+List.length (Lib.itoa ((List.getD s5 (Int.toNat i7) aa).ss))) 9223372036854775807) (chk (nle (List.length (((((eA++(List.getD l0 (Int.toNat ((List.getD s5 (Int.toNat i7) aa).sw)) ab).wn)++([32,99,114,101,119,32]:List UInt8))++(Lib.itoa ((List.getD s5 (Int.toNat i7) aa).sc)))++([32,102,114,111,109,32]:List UInt8))++(Lib.itoa ((List.getD s5 (Int.toNat i7) aa).ss)))+List.length ([32,116,111,32]:List UInt8)) 9223372036854775807) (chk (inb i7 (List.length s5)) (chk (nlt (Int.toNat i7) (List.length s5)) (chk (inb (Slot.sw (List.getD s5 (Int.toNat i7) aa)) (List.length l0)) (chk ((ile (-1000000000000) (aV l0 (List.getD s5 (Int.toNat i7) aa))&&(ile (aV l0 (List.getD s5 (Int.toNat i7) aa)) 1000000000000&&((0:Int) == (0:Int))))) (chk (nle (List.length ((((((eA++(List.getD l0 (Int.toNat ((List.getD s5 (Int.toNat i7) aa).sw)) ab).wn)++([32,99,114,101,119,32]:List UInt8))++(Lib.itoa ((List.getD s5 (Int.toNat i7) aa).sc)))++([32,102,114,111,109,32]:List UInt8))++(Lib.itoa ((List.getD s5 (Int.toNat i7) aa).ss)))++([32,116,111,32]:List UInt8))+List.length (Lib.itoa (aV l0 (List.getD s5 (Int.toNat i7) aa)))) 9223372036854775807) (chk (nle (List.length (((((((eA++(List.getD l0 (Int.toNat ((List.getD s5 (Int.toNat i7) aa).sw)) ab).wn)++([32,99,114,101,119,32]:List UInt8))++(Lib.itoa ((List.getD s5 (Int.toNat i7) aa).sc)))++([32,102,114,111,109,32]:List UInt8))++(Lib.itoa ((List.getD s5 (Int.toNat i7) aa).ss)))++([32,116,111,32]:List UInt8))++(Lib.itoa (aV l0 (List.getD s5 (Int.toNat i7) aa))))+List.length ([10]:List UInt8)) 9223372036854775807) (k2 l0 s5 ((((((((eA++(List.getD l0 (Int.toNat ((List.getD s5 (Int.toNat i7) aa).sw)) ab).wn)++([32,99,114,101,119,32]:List UInt8))++(Lib.itoa ((List.getD s5 (Int.toNat i7) aa).sc)))++([32,102,114,111,109,32]:List UInt8))++(Lib.itoa ((List.getD s5 (Int.toNat i7) aa).ss)))++([32,116,111,32]:List UInt8))++(Lib.itoa (aV l0 (List.getD s5 (Int.toNat i7) aa))))++([10]:List UInt8)) (IntKind.wrap .i64 (i7+(1:Int))))))))))))))))))))))))) (k1 eA)
noncomputable def it2 (Kb1:ah U El) (n:Nat):ah U El:=bD nm2 (fun st' K'=>ak X (cdp [1,1,1,0,1,0,0] bd) .d st' K' (aC 0 (ap nm1 Kb1) (fun _ _=>none)) RR) n
noncomputable def ct1:ah U El:=fun st=>ak X (cdp [1,1,1,1] bd) .d st RR (fun _ _=>none) RR
theorem P0 (l p):ak X (cdp [] bd) (.seq none .d (.seq none .d (.seq none .d (.seq (some nm1) (.seq none .d (.block (.loop nm2 .d))) .d)))) (fr0 l p) RR (fun _ _=>none) RR=sh0 l p (fun y0 y1 y2 y3=>(hid (it2 (hid ct1) 100000)) (fr2 y0 y1 y2 y3)):=by kernel_rfl
theorem P1 (eA):ct1 (fr1 eA)=sh1 eA:=by kernel_rfl
theorem P2 (l0 s5 eA i7) (Kb1 Kb2:ah U El):ak X (cdp [1,1,1,0,1,0,0] bd) .d (fr2 l0 s5 eA i7) (ap nm2 Kb2) (aC 0 (ap nm1 Kb1) (fun _ _=>none)) RR=sh2 l0 s5 eA i7 (fun y0=>Kb1 (fr1 y0)) (fun y0 y1 y2 y3=>Kb2 (fr2 y0 y1 y2 y3)):=by kernel_rfl
noncomputable def f1 (eA:List UInt8):R:=sh1 eA
noncomputable def f2:Nat→Y2
  | 0=>fun _ _ _ _=>none
  | n+1=>fun l0 s5 eA i7=>sh2 l0 s5 eA i7 f1 (f2 n)
noncomputable def f0 (l:List Work) (p:List Slot):R:=sh0 l p (f2 100000)
theorem T1 (eA):(hid ct1) (fr1 eA)=f1 eA:=by
  refine (congrFun (am _) _).trans <| (P1 eA).trans ?_
  show _=sh1 eA
  rfl
theorem T2:∀ (n:Nat),∀ l0 s5 eA i7,it2 (hid ct1) n (fr2 l0 s5 eA i7)=f2 n l0 s5 eA i7:=by
  intro n
  induction n with
  | zero=>intros; rfl
  | succ n ih =>
    intro l0 s5 eA i7
    refine (P2 l0 s5 eA i7 (hid ct1) (it2 (hid ct1) n)).trans ?_
    show _=sh2 l0 s5 eA i7 f1 (f2 n)
    simp only [T1,ih]
theorem H2 (l0 s5 eA i7):hid (it2 (hid ct1) 100000) (fr2 l0 s5 eA i7)=f2 100000 l0 s5 eA i7:=(congrFun (am _) _).trans (T2 100000 l0 s5 eA i7)
theorem T0 (l p):ak X bd (.seq none .d (.seq none .d (.seq none .d (.seq (some nm1) (.seq none .d (.block (.loop nm2 .d))) .d)))) (fr0 l p) RR (fun _ _=>none) RR=f0 l p:=by
  refine (P0 l p).trans ?_
  show _=sh0 l p (f2 100000)
  simp only [H2]
theorem run (l p):aS X bd (.seq none .d (.seq none .d (.seq none .d (.seq (some nm1) (.seq none .d (.block (.loop nm2 .d))) .d)))) nmR [4] [] [(.lst .work l),(.lst .slot p)]=f0 l p:=T0 l p
theorem loop (l : List Work) (S : List Slot) (hl : S.length ≤ 12) (hS : ∀ s ∈ S, GS l s) : ∀ (n k : Nat) (buf : List UInt8), S.length < n + k → k ≤ S.length → buf.length ≤ 200 * k → f2 n l S buf (k : Int) = f1 (buf ++ dz l (S.drop k)) := by
  intro n
  induction n with
  | zero=>intro k buf h1 h2; omega
  | succ n ih =>
    intro k buf h1 h2 h3
    show sh2 l S buf (k:Int) f1 (f2 n)=_
    unfold sh2
    by_cases hk:k < S.length
    · have hg := hS _ (List.getElem_mem hk)
      have hL:=k0 hg
      have hll:=jL hL
      have a1:=hL.a; have a2:=hL.b; have a3:=hL.c; have a4:=hL.d
      have j1:=hL.i1; have j2:=hL.i2; have j3:=hL.i3
      rw [bf (by simp; omega),bm,a8 hk,aw,j5 hk,aD hk,hg.sw,bl k (by omega)]
      simp only [ile,nle,List.length_append,List.length_cons,List.length_nil,beq_self_eq_true,Bool.and_true]
      repeat (first | rw [bn] | rw [decide_eq_true (by first | omega | (simp; omega))] | rw [Bool.true_and])
      rw [aZ hk,fT]
      have e:((((((((buf++(List.getD l (Int.toNat S[k].sw) ab).wn)++([32,99,114,101,119,32]:List UInt8))++(Lib.itoa S[k].sc))++([32,102,114,111,109,32]:List UInt8))++(Lib.itoa S[k].ss))++([32,116,111,32]:List UInt8))++(Lib.itoa (aV l S[k])))++([10]:List UInt8))=buf++ib l S[k]:=by
        unfold ib
        simp only [List.append_assoc]
      rw [e]
      refine Eq.trans (ih (k+1) (buf++ib l S[k]) (by omega) hk (by rw [List.length_append]; omega)) ?_
      rw [List.append_assoc]
    · have : k = S.length := by omega
      subst this
      rw [a6 (by simp),br,List.drop_length]
      show f1 buf=f1 (buf++[])
      rw [List.append_nil]
theorem f0_eq (l:List Work) (p:List Slot) (h:(az l 12 p == (0:Int)&&(okV l&&nle (List.length l) 12))=true):f0 l p=some ((.str (eZ l p)),[]):=by
  have hG:=jM h
  have hn:=hG.n; have hlp:=hG.lp
  have hbl:=la p
  show sh0 l p (f2 100000)=_
  unfold sh0
  rw [bz (show p.length≤12 by omega),bn]
  exact loop l (byL p) (by omega) (fun s hs=>hG.sl s (byL_mem.1 hs)) 100000 0 [] (by omega) (by omega) (by simp)
theorem ok:CtxOk Tryz.prog X:=aO tab (spC rend.spOk (spC bystart.spOk (spC format.spOk spN))) dpN
theorem okM:MOk Tryz.prog X:=fun g sp h=>by cases h
theorem spec (l:List Work) (p:List Slot) (h:((az l 12 p == (0:Int)&&(okV l&&nle (List.length l) 12)))=true):ar Tryz.prog E 13 [(.lst .work l),(.lst .slot p)] (.str (eZ l p)) [] :=
  al ok okM Tryz.call13 Tryz.func13 (by kernel_rfl) (by kernel_rfl) (by kernel_rfl) (by show 2≤54; decide) (by decide) (by rfl) ((run l p).trans (f0_eq l p h))
noncomputable def sp:Sp U El:=fun args k=>match args with
  | [.lst .work l,.lst .slot p]=>chk ((az l 12 p == (0:Int)&&(okV l&&nle (List.length l) 12))) (k (.str (eZ l p)) [])
  | _=>none
theorem spOk:SpOk Tryz.prog E 13 sp where
  det:=fun vs=>by
    unfold sp
    split
    · exact ba _ _ _
    · exact ⟨none,fun _=>rfl⟩
  ok:=fun vs k r h=>by
    unfold sp at h
    split at h
    · obtain ⟨h1, h2⟩ := ae h
      exact ⟨_,_,spec _ _ h1,h2⟩
    · cases h
end rtext
noncomputable def o6:List Span→List Span→Bool
  | [],_=>true
  | x :: a,y :: b=>(x.slo == y.slo&&(x.shi == y.shi&&true))&&o6 a b
  | _,_=>false
noncomputable def eqP (a b:List Span):Bool:=bif (Int.ofNat a.length) != (Int.ofNat b.length) then false else o6 a b
theorem qr (a:List Span):eqP a a=true:=by
  have:∀ a,o6 a a=true:=by
    intro a
    induction a with
    | nil=>rfl
    | cons x a ih=>simp [o6,ih]
  unfold eqP
  rw [bne_self_eq_false]
  exact this a
namespace equalP
noncomputable def bd:Code:=(Tryz.f15.body).getD .skip
noncomputable def X:Ctx U El:=⟨E,tds,zeros,eqs,aH [],100000,26,aB [],fun _=>none⟩
noncomputable def nmR:Norm U:=⟨[],[4],[],[],[],[],[]⟩
noncomputable def RR:ah U El:=fun st=>aL nmR st (aG [4] [])
noncomputable def nm1:Norm U:=⟨[],[],[],[],[],[],[]⟩
noncomputable def nm2:Norm U:=⟨[],[0,1,12,13],[],[],[],[],[]⟩
abbrev Y1:=R
abbrev Y2:=(List Span)→(List Span)→Int→Int→R
noncomputable def fr0 (a:List Span) (b:List Span):St U El:=⟨[(0,(.lst .span a)),(1,(.lst .span b))],[]⟩
noncomputable def fr1:St U El:=⟨[],[]⟩
noncomputable def fr2 (iA:List Span) (jA:List Span) (kA:Int) (hA:Int):St U El:=⟨[(0,(.lst .span iA)),(1,(.lst .span jA)),(12,(.int .i64 kA)),(13,(.int .i64 hA))],[]⟩
noncomputable def sh0 (a:List Span) (b:List Span) (k2:Y2):R :=
  af ((Int.ofNat (List.length a)) != (Int.ofNat (List.length b))) (some ((.bool false),[])) (k2 a b (Int.ofNat (List.length a)) (0:Int))
noncomputable def sh1:R :=
  some ((.bool true),[])
noncomputable def sh2 (iA:List Span) (jA:List Span) (kA:Int) (hA:Int) (k1:Y1) (k2:Y2):R :=
  af (ilt hA kA) (chk (inb hA (List.length iA)) (chk (inb hA (List.length jA)) (af (!(((List.getD iA (Int.toNat hA) gN).slo == (List.getD jA (Int.toNat hA) gN).slo)&&(((List.getD iA (Int.toNat hA) gN).shi == (List.getD jA (Int.toNat hA) gN).shi)&&true))) (some ((.bool false),[])) (k2 iA jA kA (IntKind.wrap .i64 (hA+(1:Int))))))) (k1)
noncomputable def it2 (Kb1:ah U El) (n:Nat):ah U El:=bD nm2 (fun st' K'=>ak X (cdp [1,1,0,1,0,0] bd) .d st' K' (aC 0 (ap nm1 Kb1) (fun _ _=>none)) RR) n
noncomputable def ct1:ah U El:=fun st=>ak X (cdp [1,1,1] bd) .d st RR (fun _ _=>none) RR
theorem P0 (a b):ak X (cdp [] bd) (.seq none .d (.seq none .d (.seq (some nm1) (.seq none .d (.block (.loop nm2 .d))) .d))) (fr0 a b) RR (fun _ _=>none) RR=sh0 a b (fun y0 y1 y2 y3=>(hid (it2 (hid ct1) 100000)) (fr2 y0 y1 y2 y3)):=by kernel_rfl
theorem P1:ct1 (fr1)=sh1:=by kernel_rfl
theorem P2 (iA jA kA hA) (Kb1 Kb2:ah U El):ak X (cdp [1,1,0,1,0,0] bd) .d (fr2 iA jA kA hA) (ap nm2 Kb2) (aC 0 (ap nm1 Kb1) (fun _ _=>none)) RR=sh2 iA jA kA hA (Kb1 (fr1)) (fun y0 y1 y2 y3=>Kb2 (fr2 y0 y1 y2 y3)):=by kernel_rfl
noncomputable def f1:R:=sh1
noncomputable def f2:Nat→Y2
  | 0=>fun _ _ _ _=>none
  | n+1=>fun iA jA kA hA=>sh2 iA jA kA hA f1 (f2 n)
noncomputable def f0 (a:List Span) (b:List Span):R:=sh0 a b (f2 100000)
theorem T1:(hid ct1) (fr1)=f1:=by
  refine (congrFun (am _) _).trans <| (P1).trans ?_
  show _=sh1
  rfl
theorem T2:∀ (n:Nat),∀ iA jA kA hA,it2 (hid ct1) n (fr2 iA jA kA hA)=f2 n iA jA kA hA:=by
  intro n
  induction n with
  | zero=>intros; rfl
  | succ n ih =>
    intro iA jA kA hA
    refine (P2 iA jA kA hA (hid ct1) (it2 (hid ct1) n)).trans ?_
    show _=sh2 iA jA kA hA f1 (f2 n)
    simp only [T1,ih]
theorem H2 (iA jA kA hA):hid (it2 (hid ct1) 100000) (fr2 iA jA kA hA)=f2 100000 iA jA kA hA:=(congrFun (am _) _).trans (T2 100000 iA jA kA hA)
theorem T0 (a b):ak X bd (.seq none .d (.seq none .d (.seq (some nm1) (.seq none .d (.block (.loop nm2 .d))) .d))) (fr0 a b) RR (fun _ _=>none) RR=f0 a b:=by
  refine (P0 a b).trans ?_
  show _=sh0 a b (f2 100000)
  simp only [H2]
theorem run (a b):aS X bd (.seq none .d (.seq none .d (.seq (some nm1) (.seq none .d (.block (.loop nm2 .d))) .d))) nmR [4] [] [(.lst .span a),(.lst .span b)]=f0 a b:=T0 a b
theorem loop (a b:List Span) (hl:a.length≤90000) (he:a.length=b.length):∀ (n i:Nat),a.length < n+i→i≤a.length→f2 n a b (Int.ofNat a.length) (i:Int)=a7 (o6 (a.drop i) (b.drop i)):=by
  intro n
  induction n with
  | zero=>intro i h1 h2; omega
  | succ n ih =>
    intro i h1 h2
    show sh2 a b (Int.ofNat a.length) i f1 (f2 n)=_
    unfold sh2
    by_cases hi:i < a.length
    · have hi' : i < b.length := by omega
      rw [bf (by simp; omega),a8 hi,a8 hi',aw,aD hi,aD hi',aZ hi,aZ hi',bl i (by omega)]
      simp only [o6]
      cases (a[i].slo == b[i].slo&&(a[i].shi == b[i].shi&&true))
      · rfl
      · exact ih (i+1) (by omega) hi
    · have : i = a.length := by omega
      subst this
      rw [a6 (by simp),List.drop_length,he,List.drop_length]
      rfl
theorem f0_eq (a b:List Span) (h:nle (List.length a) 90000=true):f0 a b=a7 (eqP a b):=by
  have hl:a.length≤90000:=cm h
  unfold f0 sh0 eqP
  cases hb:(Int.ofNat a.length) != (Int.ofNat b.length)
  · have he : a.length = b.length := Int.ofNat.inj (by simpa only [bne_eq_false_iff_eq] using hb)
    exact loop a b hl he 100000 0 (by omega) (by omega)
  · rfl
theorem ok:CtxOk Tryz.prog X:=aO tab spN dpN
theorem okM:MOk Tryz.prog X:=fun g sp h=>by cases h
theorem spec (a:List Span) (b:List Span) (h:(nle (List.length a) 90000)=true):ar Tryz.prog E 15 [(.lst .span a),(.lst .span b)] (.bool (eqP a b)) [] :=
  al ok okM Tryz.call15 Tryz.func15 (by kernel_rfl) (by kernel_rfl) (by kernel_rfl) (by show 2≤26; decide) (by decide) (by rfl) ((run a b).trans (f0_eq a b h))
noncomputable def sp:Sp U El:=fun args k=>match args with
  | [.lst .span a,.lst .span b]=>chk (nle (List.length a) 90000) (k (.bool (eqP a b)) [])
  | _=>none
theorem spOk:SpOk Tryz.prog E 15 sp where
  det:=fun vs=>by
    unfold sp
    split
    · exact ba _ _ _
    · exact ⟨none,fun _=>rfl⟩
  ok:=fun vs k r h=>by
    unfold sp at h
    split at h
    · obtain ⟨h1, h2⟩ := ae h
      exact ⟨_,_,spec _ _ h1,h2⟩
    · cases h
end equalP
end Go.Proofs.YthdklallcljhlaaGreatDoor
