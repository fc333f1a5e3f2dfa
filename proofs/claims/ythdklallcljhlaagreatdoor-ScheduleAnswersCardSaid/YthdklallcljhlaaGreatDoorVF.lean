/- The first fault of a slot. -/
import Derived.Test.YthdklallcljhlaaGreatDoorVE
namespace Go.Proofs.YthdklallcljhlaaGreatDoor
set_option linter.unusedSectionVars false
set_option linter.unusedSimpArgs false
set_option linter.unusedVariables false
set_option maxRecDepth 100000
noncomputable def fE (l:List Work) (p:List Slot) (i k:Nat):Bool := !((k:Int) == (i:Int))&&(!(ile ((List.getD p i aa).ss+(List.getD l i ab).wh) (List.getD p k aa).ss) && !(ile (List.getD p k aa).ss ((List.getD p i aa).ss - (List.getD l k ab).wh)))
noncomputable def cS (l:List Work) (p:List Slot) (i k:Nat):Bool:=fE l p i k&&((List.getD p k aa).sc == (List.getD p i aa).sc)
noncomputable def dK (l:List Work) (p:List Slot) (i k:Nat):Bool:=fE l p i k&&(!((List.getD l i ab).ws == ([]:List UInt8))&&((List.getD l k ab).ws == (List.getD l i ab).ws))
def ch (f:Nat→Bool):Nat→Nat→Bool
  | 0,_=>false
  | n+1,k=>f k||ch f n (k+1)
noncomputable def gQ (l:List Work) (p:List Slot) (i:Nat) (a:Int):Bool:=ilt ((List.getD p i aa).ss - (List.getD l (Int.toNat a) ab).wh) (List.getD p (Int.toNat a) aa).ss
noncomputable def eB (l:List Work) (p:List Slot) (i:Nat):Int :=
  bif (List.getD p i aa).sw != (i:Int) then 25 else bif !(List.any (List.getD l i ab).wc (bK (List.getD p i aa).sc)) then 11 else bif !(ile 0 (List.getD p i aa).ss&&ile (List.getD p i aa).ss 1000000) then 2 else bif List.any (List.getD l i ab).wa (gQ l p i) then 17 else bif ch (cS l p i) l.length 0 then 10 else bif ch (dK l p i) l.length 0 then 15 else 0
noncomputable def bG (l:List Work) (p:List Slot) (i:Int):Int:=eB l p (Int.toNat i)
noncomputable def okF (l:List Work) (p:List Slot) (i:Int):Bool:=okO l&&(List.all l (fun w=>nle w.wc.length 90000&&(ile 0 w.wh&&ile w.wh 1000))&&(Nat.beq p.length l.length&&inb i l.length))
noncomputable def aV (l:List Work) (s:Slot):Int:=IntKind.wrap .i64 (s.ss+(List.getD l (Int.toNat s.sw) ab).wh)
structure FF (l:List Work) (p:List Slot) (i:Nat):Prop where
  n:l.length≤90000
  lp:p.length=l.length
  hi:i < l.length
  wh:∀ k,k < l.length→0≤(List.getD l k ab).wh∧(List.getD l k ab).wh≤1000
  wc:(List.getD l i ab).wc.length≤90000
  wa:(List.getD l i ab).wa.length≤90000
  ain:∀ a∈(List.getD l i ab).wa,inb a l.length=true
theorem p9 {l:List Work} {p:List Slot} {i:Int} (h:okF l p i=true):∃ q:Nat,i=(q:Int)∧FF l p q:=by
  simp only [okF,Bool.and_eq_true] at h
  obtain ⟨h1,h2,h3,h4⟩:=h
  obtain ⟨g1,g2⟩:=gn h1
  simp only [inb,Bool.and_eq_true] at h4
  obtain ⟨q,rfl⟩:=Int.eq_ofNat_of_zero_le (dw h4.1)
  have hq:q < l.length:=by have:=oO h4.2; simp at this; omega
  have hall:=fun k (hk:k < l.length)=>by
    have:=List.all_eq_true.1 h2 _ (List.getElem_mem hk)
    simp only [Bool.and_eq_true] at this
    exact this
  refine ⟨q,rfl,g1,Nat.eq_of_beq_eq_true h3,hq,fun k hk => ?_,?_,?_,?_⟩
  · rw [aD hk]; exact ⟨dw (hall k hk).2.1,dw (hall k hk).2.2⟩
  · rw [aD hq]; exact cm (hall q hq).1
  · rw [aD hq]; exact (g2 _ (List.getElem_mem hq)).1
  · rw [aD hq]; exact (g2 _ (List.getElem_mem hq)).2
namespace every
noncomputable def bd:Code:=(Tryz.f53.body).getD .skip
noncomputable def X:Ctx U El:=⟨E,tds,zeros,eqs,aH [],100000,3,aB [],fun _=>none⟩
noncomputable def nmR:Norm U:=⟨[],[2],[],[],[],[],[]⟩
noncomputable def RR:ah U El:=fun st=>aL nmR st (aG [2] [])
noncomputable def fr0 (x:Int):St U El:=⟨[(0,(.int .i64 x))],[]⟩
noncomputable def sh0 (x:Int):R :=
  some ((.bool true),[])
theorem P0 (x):ak X (cdp [] bd) .d (fr0 x) RR (fun _ _=>none) RR=sh0 x:=by kernel_rfl
noncomputable def f0 (x:Int):R:=sh0 x
theorem T0 (x):ak X bd .d (fr0 x) RR (fun _ _=>none) RR=f0 x:=by
  refine (P0 x).trans ?_
  show _=sh0 x
  rfl
theorem run (x):aS X bd .d nmR [2] [] [(.int .i64 x)]=f0 x:=T0 x
theorem f0_eq (x:Int):f0 x=a7 true:=rfl
theorem ok:CtxOk Tryz.prog X:=aO tab spN dpN
theorem okM:MOk Tryz.prog X:=fun g sp h=>by cases h
theorem spec (x:Int):ar Tryz.prog E 53 [(.int .i64 x)] (.bool (true)) [] :=
  al ok okM Tryz.call53 Tryz.func53 (by kernel_rfl) (by kernel_rfl) (by kernel_rfl) (by show 1≤3; decide) (by decide) (by rfl) ((run x).trans (f0_eq x))
noncomputable def sp:Sp U El:=fun args k=>match args with
  | [.int .i64 x]=>k (.bool (true)) []
  | _=>none
theorem spOk:SpOk Tryz.prog E 53 sp where
  det:=fun vs=>by
    unfold sp
    split
    · exact ⟨some (_,_),fun _=>rfl⟩
    · exact ⟨none,fun _=>rfl⟩
  ok:=fun vs k r h=>by
    unfold sp at h
    split at h
    · exact ⟨_,_,spec _,h⟩
    · cases h
end every
namespace fault
noncomputable def bd:Code:=(Tryz.f52.body).getD .skip
noncomputable def X:Ctx U El:=⟨E,tds,zeros,eqs,aH [(38,within.sp),(53,every.sp),(82,hasI.sp)],100000,138,aB [],fun _=>none⟩
noncomputable def nmR:Norm U:=⟨[],[8],[],[],[],[],[]⟩
noncomputable def RR:ah U El:=fun st=>aL nmR st (aG [8] [])
noncomputable def nm1:Norm U:=⟨[],[0,1,2,3,9,10],[9,10],[],[],[],[(9,2,.int),(9,4,.int)]⟩
noncomputable def nm2:Norm U:=⟨[],[0,1,2,3,9,10,42,43,44],[9,10],[],[],[],[(9,2,.int),(9,4,.int)]⟩
noncomputable def nm3:Norm U:=⟨[],[13,14],[],[],[],[],[]⟩
noncomputable def nm4:Norm U:=⟨[],[0,1,2,3,9,10,13,14,64,65],[9,10],[],[],[],[(9,2,.int),(9,4,.int)]⟩
noncomputable def nm5:Norm U:=⟨[],[0,1,2,3,9,10,13,14,64,65],[9,10],[],[],[],[(9,2,.int),(9,4,.int)]⟩
noncomputable def nm6:Norm U:=⟨[],[0,1,2,3,9,10,13,14,15,64,65],[9,10],[],[],[],[(9,2,.int),(9,4,.int)]⟩
noncomputable def nm7:Norm U:=⟨[],[0,1,2,3,9,10,13,14,15,64,65],[9,10],[],[],[],[(9,2,.int),(9,4,.int)]⟩
abbrev Y1:=(List Work)→(List Slot)→Int→(List UInt8)→Int→(List Int)→(List UInt8)→(List Int)→Int→Int→Slot→R
abbrev Y2:=(List Work)→(List Slot)→Int→(List Int)→Int→Int→(List UInt8)→Int→(List Int)→(List UInt8)→(List Int)→Int→Int→Slot→R
abbrev Y3:=Bool→Bool→R
abbrev Y4:=(List Work)→(List Slot)→Int→Bool→Bool→Int→Int→(List UInt8)→Int→(List Int)→(List UInt8)→(List Int)→Int→Int→Slot→R
abbrev Y5:=(List Work)→(List Slot)→Int→Bool→Bool→Int→Int→(List UInt8)→Int→(List Int)→(List UInt8)→(List Int)→Int→Int→Slot→R
abbrev Y6:=(List Work)→(List Slot)→Int→Bool→Bool→Int→Int→Int→(List UInt8)→Int→(List Int)→(List UInt8)→(List Int)→Int→Int→Slot→R
abbrev Y7:=(List Work)→(List Slot)→Int→Bool→Bool→Int→Int→Int→(List UInt8)→Int→(List Int)→(List UInt8)→(List Int)→Int→Int→Slot→R
noncomputable def fr0 (l:List Work) (p:List Slot) (i:Int):St U El:=⟨[(0,(.lst .work l)),(1,(.lst .slot p)),(2,(.int .i64 i)),(3,(.fn 53 [] []))],[]⟩
noncomputable def fr1 (l0:List Work) (p1:List Slot) (i2:Int) (eA:List UInt8) (dA:Int) (fA:List Int) (cA:List UInt8) (gA:List Int) (hA:Int) (iA:Int) (jA:Slot):St U El:=⟨[(0,(.lst .work l0)),(1,(.lst .slot p1)),(2,(.int .i64 i2)),(3,(.fn 53 [] [])),(9,(.ptr 9 0)),(10,(.ptr 10 0))],[(9,(.box 0 [(.str eA),(.int .i64 dA),(.lst .int fA),(.str cA),(.lst .int gA),(.int .i64 hA),(.int .i64 iA)])),(10,(.box 0 [(.int .i64 jA.sw),(.int .i64 jA.sc),(.int .i64 jA.ss)]))]⟩
noncomputable def fr2 (l0:List Work) (p1:List Slot) (i2:Int) (oA:List Int) (pA:Int) (nA:Int) (eA:List UInt8) (dA:Int) (fA:List Int) (cA:List UInt8) (gA:List Int) (hA:Int) (iA:Int) (jA:Slot):St U El:=⟨[(0,(.lst .work l0)),(1,(.lst .slot p1)),(2,(.int .i64 i2)),(3,(.fn 53 [] [])),(9,(.ptr 9 0)),(10,(.ptr 10 0)),(42,(.lst .int oA)),(43,(.int .i64 pA)),(44,(.int .i64 nA))],[(9,(.box 0 [(.str eA),(.int .i64 dA),(.lst .int fA),(.str cA),(.lst .int gA),(.int .i64 hA),(.int .i64 iA)])),(10,(.box 0 [(.int .i64 jA.sw),(.int .i64 jA.sc),(.int .i64 jA.ss)]))]⟩
noncomputable def fr3 (bA:Bool) (aA:Bool):St U El:=⟨[(13,(.bool bA)),(14,(.bool aA))],[]⟩
noncomputable def fr4 (l0:List Work) (p1:List Slot) (i2:Int) (bA:Bool) (aA:Bool) (lA:Int) (kA:Int) (eA:List UInt8) (dA:Int) (fA:List Int) (cA:List UInt8) (gA:List Int) (hA:Int) (iA:Int) (jA:Slot):St U El:=⟨[(0,(.lst .work l0)),(1,(.lst .slot p1)),(2,(.int .i64 i2)),(3,(.fn 53 [] [])),(9,(.ptr 9 0)),(10,(.ptr 10 0)),(13,(.bool bA)),(14,(.bool aA)),(64,(.int .i64 lA)),(65,(.int .i64 kA))],[(9,(.box 0 [(.str eA),(.int .i64 dA),(.lst .int fA),(.str cA),(.lst .int gA),(.int .i64 hA),(.int .i64 iA)])),(10,(.box 0 [(.int .i64 jA.sw),(.int .i64 jA.sc),(.int .i64 jA.ss)]))]⟩
noncomputable def fr5 (l0:List Work) (p1:List Slot) (i2:Int) (bA:Bool) (aA:Bool) (lA:Int) (kA:Int) (eA:List UInt8) (dA:Int) (fA:List Int) (cA:List UInt8) (gA:List Int) (hA:Int) (iA:Int) (jA:Slot):St U El:=⟨[(0,(.lst .work l0)),(1,(.lst .slot p1)),(2,(.int .i64 i2)),(3,(.fn 53 [] [])),(9,(.ptr 9 0)),(10,(.ptr 10 0)),(13,(.bool bA)),(14,(.bool aA)),(64,(.int .i64 lA)),(65,(.int .i64 kA))],[(9,(.box 0 [(.str eA),(.int .i64 dA),(.lst .int fA),(.str cA),(.lst .int gA),(.int .i64 hA),(.int .i64 iA)])),(10,(.box 0 [(.int .i64 jA.sw),(.int .i64 jA.sc),(.int .i64 jA.ss)]))]⟩
noncomputable def fr6 (l0:List Work) (p1:List Slot) (i2:Int) (bA:Bool) (aA:Bool) (mA:Int) (lA:Int) (kA:Int) (eA:List UInt8) (dA:Int) (fA:List Int) (cA:List UInt8) (gA:List Int) (hA:Int) (iA:Int) (jA:Slot):St U El:=⟨[(0,(.lst .work l0)),(1,(.lst .slot p1)),(2,(.int .i64 i2)),(3,(.fn 53 [] [])),(9,(.ptr 9 0)),(10,(.ptr 10 0)),(13,(.bool bA)),(14,(.bool aA)),(15,(.int .i64 mA)),(64,(.int .i64 lA)),(65,(.int .i64 kA))],[(9,(.box 0 [(.str eA),(.int .i64 dA),(.lst .int fA),(.str cA),(.lst .int gA),(.int .i64 hA),(.int .i64 iA)])),(10,(.box 0 [(.int .i64 jA.sw),(.int .i64 jA.sc),(.int .i64 jA.ss)]))]⟩
noncomputable def fr7 (l0:List Work) (p1:List Slot) (i2:Int) (bA:Bool) (aA:Bool) (mA:Int) (lA:Int) (kA:Int) (eA:List UInt8) (dA:Int) (fA:List Int) (cA:List UInt8) (gA:List Int) (hA:Int) (iA:Int) (jA:Slot):St U El:=⟨[(0,(.lst .work l0)),(1,(.lst .slot p1)),(2,(.int .i64 i2)),(3,(.fn 53 [] [])),(9,(.ptr 9 0)),(10,(.ptr 10 0)),(13,(.bool bA)),(14,(.bool aA)),(15,(.int .i64 mA)),(64,(.int .i64 lA)),(65,(.int .i64 kA))],[(9,(.box 0 [(.str eA),(.int .i64 dA),(.lst .int fA),(.str cA),(.lst .int gA),(.int .i64 hA),(.int .i64 iA)])),(10,(.box 0 [(.int .i64 jA.sw),(.int .i64 jA.sc),(.int .i64 jA.ss)]))]⟩
noncomputable def sh0 (l:List Work) (p:List Slot) (i:Int) (k2:Y2):R :=
  chk (inb i (List.length l)) (chk (inb i (List.length p)) (af ((List.getD p (Int.toNat i) aa).sw != i) (some ((.int .i64 (25:Int)),[])) (chk (nle (List.length ((List.getD l (Int.toNat i) ab).wc)) 90000) (af (!(List.any ((List.getD l (Int.toNat i) ab).wc) (bK ((List.getD p (Int.toNat i) aa).sc)))) (some ((.int .i64 (11:Int)),[])) (af (!((ile (0:Int) ((List.getD p (Int.toNat i) aa).ss)&&ile ((List.getD p (Int.toNat i) aa).ss) (1000000:Int)))) (some ((.int .i64 (2:Int)),[])) (k2 l p i ((List.getD l (Int.toNat i) ab).wa) (Int.ofNat (List.length ((List.getD l (Int.toNat i) ab).wa))) (0:Int) ((List.getD l (Int.toNat i) ab).wn) ((List.getD l (Int.toNat i) ab).wh) ((List.getD l (Int.toNat i) ab).wc) ((List.getD l (Int.toNat i) ab).ws) ((List.getD l (Int.toNat i) ab).wa) ((List.getD l (Int.toNat i) ab).wd) ((List.getD l (Int.toNat i) ab).wp) (List.getD p (Int.toNat i) aa)))))))
noncomputable def sh1 (l0:List Work) (p1:List Slot) (i2:Int) (eA:List UInt8) (dA:Int) (fA:List Int) (cA:List UInt8) (gA:List Int) (hA:Int) (iA:Int) (jA:Slot) (k4:Y4):R :=
  k4 l0 p1 i2 false false (Int.ofNat (List.length l0)) (0:Int) eA dA fA cA gA hA iA jA
noncomputable def sh2 (l0:List Work) (p1:List Slot) (i2:Int) (oA:List Int) (pA:Int) (nA:Int) (eA:List UInt8) (dA:Int) (fA:List Int) (cA:List UInt8) (gA:List Int) (hA:Int) (iA:Int) (jA:Slot) (k1:Y1) (k2:Y2):R :=
  af (ilt nA pA) (chk (inb nA (List.length oA)) (chk (inb (List.getD oA (Int.toNat nA) bJ) (List.length p1)) (chk (inb (List.getD oA (Int.toNat nA) bJ) (List.length l0)) (af (ilt (IntKind.wrap .i64 (jA.ss - (List.getD l0 (Int.toNat (List.getD oA (Int.toNat nA) bJ)) ab).wh)) ((List.getD p1 (Int.toNat (List.getD oA (Int.toNat nA) bJ)) aa).ss)) (some ((.int .i64 (17:Int)),[])) (k2 l0 p1 i2 oA pA (IntKind.wrap .i64 (nA+(1:Int))) eA dA fA cA gA hA iA jA))))) (k1 l0 p1 i2 eA dA fA cA gA hA iA jA)
noncomputable def sh3 (bA:Bool) (aA:Bool):R :=
  af bA (some ((.int .i64 (10:Int)),[])) (af aA (some ((.int .i64 (15:Int)),[])) (some ((.int .i64 (0:Int)),[])))
noncomputable def sh4 (l0:List Work) (p1:List Slot) (i2:Int) (bA:Bool) (aA:Bool) (lA:Int) (kA:Int) (eA:List UInt8) (dA:Int) (fA:List Int) (cA:List UInt8) (gA:List Int) (hA:Int) (iA:Int) (jA:Slot) (k3:Y3) (k5:Y5) (k6:Y6):R :=
  af (ilt kA lA) (af (kA == i2) (k5 l0 p1 i2 bA aA lA kA eA dA fA cA gA hA iA jA) (af (!(true)) (k5 l0 p1 i2 bA aA lA kA eA dA fA cA gA hA iA jA) (chk (inb kA (List.length p1)) (af (ile (IntKind.wrap .i64 (jA.ss+dA)) ((List.getD p1 (Int.toNat kA) aa).ss)) (k5 l0 p1 i2 bA aA lA kA eA dA fA cA gA hA iA jA) (chk (inb kA (List.length p1)) (chk (inb kA (List.length l0)) (af (ile ((List.getD p1 (Int.toNat kA) aa).ss) (IntKind.wrap .i64 (jA.ss - (List.getD l0 (Int.toNat kA) ab).wh))) (k5 l0 p1 i2 bA aA lA kA eA dA fA cA gA hA iA jA) (k6 l0 p1 i2 bA aA kA lA kA eA dA fA cA gA hA iA jA)))))))) (k3 bA aA)
noncomputable def sh5 (l0:List Work) (p1:List Slot) (i2:Int) (bA:Bool) (aA:Bool) (lA:Int) (kA:Int) (eA:List UInt8) (dA:Int) (fA:List Int) (cA:List UInt8) (gA:List Int) (hA:Int) (iA:Int) (jA:Slot) (k4:Y4):R :=
  k4 l0 p1 i2 bA aA lA (IntKind.wrap .i64 (kA+(1:Int))) eA dA fA cA gA hA iA jA
noncomputable def sh6 (l0:List Work) (p1:List Slot) (i2:Int) (bA:Bool) (aA:Bool) (mA:Int) (lA:Int) (kA:Int) (eA:List UInt8) (dA:Int) (fA:List Int) (cA:List UInt8) (gA:List Int) (hA:Int) (iA:Int) (jA:Slot) (k7:Y7):R :=
  af bA (k7 l0 p1 i2 true aA mA lA kA eA dA fA cA gA hA iA jA) (chk (inb mA (List.length p1)) (k7 l0 p1 i2 ((List.getD p1 (Int.toNat mA) aa).sc == jA.sc) aA mA lA kA eA dA fA cA gA hA iA jA))
noncomputable def sh7 (l0:List Work) (p1:List Slot) (i2:Int) (bA:Bool) (aA:Bool) (mA:Int) (lA:Int) (kA:Int) (eA:List UInt8) (dA:Int) (fA:List Int) (cA:List UInt8) (gA:List Int) (hA:Int) (iA:Int) (jA:Slot) (k5:Y5):R :=
  af aA (k5 l0 p1 i2 bA true lA kA eA dA fA cA gA hA iA jA) (af (!(cA == ([]:List UInt8))) (chk (inb mA (List.length l0)) (k5 l0 p1 i2 bA (((List.getD l0 (Int.toNat mA) ab).ws) == cA) lA kA eA dA fA cA gA hA iA jA)) (k5 l0 p1 i2 bA false lA kA eA dA fA cA gA hA iA jA))
noncomputable def it2 (Kb1:ah U El) (n:Nat):ah U El:=bD nm2 (fun st' K'=>ak X (cdp [1,1,1,0,1,0,0] bd) .d st' K' (aC 1 (ap nm1 Kb1) (fun _ _=>none)) RR) n
noncomputable def it4 (Kb3:ah U El) (n:Nat):ah U El:=bD nm4 (fun st' K'=>ak X (cdp [1,1,1,1,1,0,1,0,0] bd) (.seq none .d (.seq none .d (.seq (some nm5) (.block (.seq none .d (.seq (some nm6) .d (.seq (some nm7) .d .d)))) .d))) st' K' (aC 3 (ap nm3 Kb3) (fun _ _=>none)) RR) n
noncomputable def ct1:ah U El:=fun st=>ak X (cdp [1,1,1,1] bd) (.seq none .d (.seq (some nm3) (.seq none .d (.block (.loop nm4 (.seq none .d (.seq none .d (.seq (some nm5) (.block (.seq none .d (.seq (some nm6) .d (.seq (some nm7) .d .d)))) .d)))))) .d)) st RR (fun _ _=>none) RR
noncomputable def ct3:ah U El:=fun st=>ak X (cdp [1,1,1,1,1,1] bd) .d st RR (fun _ _=>none) RR
noncomputable def ct5 (Kb3 Kb4:ah U El):ah U El:=fun st=>ak X (cdp [1,1,1,1,1,0,1,0,0,1,1,1] bd) .d st (ap nm4 Kb4) (aC 3 (ap nm3 Kb3) (fun _ _=>none)) RR
noncomputable def ct6 (Kb3 Kb5:ah U El):ah U El:=fun st=>ak X (cdp [1,1,1,1,1,0,1,0,0,1,1,0,0,1,1] bd) (.seq (some nm7) .d .d) st (ap nm5 Kb5) (aC 4 (ap nm5 Kb5) (aC 3 (ap nm3 Kb3) (fun _ _=>none))) RR
noncomputable def ct7 (Kb3 Kb5:ah U El):ah U El:=fun st=>ak X (cdp [1,1,1,1,1,0,1,0,0,1,1,0,0,1,1,1] bd) .d st (ap nm5 Kb5) (aC 4 (ap nm5 Kb5) (aC 3 (ap nm3 Kb3) (fun _ _=>none))) RR
theorem P0 (l p i):ak X (cdp [] bd) (.seq none .d (.seq none (.region [(10,9),(11,10)]) (.seq none .d (.seq (some nm1) (.seq none .d (.block (.loop nm2 .d))) (.seq none .d (.seq (some nm3) (.seq none .d (.block (.loop nm4 (.seq none .d (.seq none .d (.seq (some nm5) (.block (.seq none .d (.seq (some nm6) .d (.seq (some nm7) .d .d)))) .d)))))) .d)))))) (fr0 l p i) RR (fun _ _=>none) RR=sh0 l p i (fun y0 y1 y2 y3 y4 y5 y6 y7 y8 y9 y10 y11 y12 y13=>(hid (it2 (hid ct1) 100000)) (fr2 y0 y1 y2 y3 y4 y5 y6 y7 y8 y9 y10 y11 y12 y13)):=by kernel_rfl
theorem P1 (l0 p1 i2 eA dA fA cA gA hA iA jA):ct1 (fr1 l0 p1 i2 eA dA fA cA gA hA iA jA)=sh1 l0 p1 i2 eA dA fA cA gA hA iA jA (fun y0 y1 y2 y3 y4 y5 y6 y7 y8 y9 y10 y11 y12 y13 y14=>(hid (it4 (hid ct3) 100000)) (fr4 y0 y1 y2 y3 y4 y5 y6 y7 y8 y9 y10 y11 y12 y13 y14)):=by kernel_rfl
theorem P2 (l0 p1 i2 oA pA nA eA dA fA cA gA hA iA jA) (Kb1 Kb2:ah U El):ak X (cdp [1,1,1,0,1,0,0] bd) .d (fr2 l0 p1 i2 oA pA nA eA dA fA cA gA hA iA jA) (ap nm2 Kb2) (aC 1 (ap nm1 Kb1) (fun _ _=>none)) RR=sh2 l0 p1 i2 oA pA nA eA dA fA cA gA hA iA jA (fun y0 y1 y2 y3 y4 y5 y6 y7 y8 y9 y10=>Kb1 (fr1 y0 y1 y2 y3 y4 y5 y6 y7 y8 y9 y10)) (fun y0 y1 y2 y3 y4 y5 y6 y7 y8 y9 y10 y11 y12 y13=>Kb2 (fr2 y0 y1 y2 y3 y4 y5 y6 y7 y8 y9 y10 y11 y12 y13)):=by kernel_rfl
theorem P3 (bA aA):ct3 (fr3 bA aA)=sh3 bA aA:=by kernel_rfl
theorem P4 (l0 p1 i2 bA aA lA kA eA dA fA cA gA hA iA jA) (Kb3 Kb4:ah U El):ak X (cdp [1,1,1,1,1,0,1,0,0] bd) (.seq none .d (.seq none .d (.seq (some nm5) (.block (.seq none .d (.seq (some nm6) .d (.seq (some nm7) .d .d)))) .d))) (fr4 l0 p1 i2 bA aA lA kA eA dA fA cA gA hA iA jA) (ap nm4 Kb4) (aC 3 (ap nm3 Kb3) (fun _ _=>none)) RR=sh4 l0 p1 i2 bA aA lA kA eA dA fA cA gA hA iA jA (fun y0 y1=>Kb3 (fr3 y0 y1)) (fun y0 y1 y2 y3 y4 y5 y6 y7 y8 y9 y10 y11 y12 y13 y14=>(hid (ct5 Kb3 Kb4)) (fr5 y0 y1 y2 y3 y4 y5 y6 y7 y8 y9 y10 y11 y12 y13 y14)) (fun y0 y1 y2 y3 y4 y5 y6 y7 y8 y9 y10 y11 y12 y13 y14 y15=>(hid (ct6 Kb3 (hid (ct5 Kb3 Kb4)))) (fr6 y0 y1 y2 y3 y4 y5 y6 y7 y8 y9 y10 y11 y12 y13 y14 y15)):=by kernel_rfl
theorem P5 (l0 p1 i2 bA aA lA kA eA dA fA cA gA hA iA jA) (Kb3 Kb4:ah U El):ct5 Kb3 Kb4 (fr5 l0 p1 i2 bA aA lA kA eA dA fA cA gA hA iA jA)=sh5 l0 p1 i2 bA aA lA kA eA dA fA cA gA hA iA jA (fun y0 y1 y2 y3 y4 y5 y6 y7 y8 y9 y10 y11 y12 y13 y14=>Kb4 (fr4 y0 y1 y2 y3 y4 y5 y6 y7 y8 y9 y10 y11 y12 y13 y14)):=by kernel_rfl
theorem P6 (l0 p1 i2 bA aA mA lA kA eA dA fA cA gA hA iA jA) (Kb3 Kb5:ah U El):ct6 Kb3 Kb5 (fr6 l0 p1 i2 bA aA mA lA kA eA dA fA cA gA hA iA jA)=sh6 l0 p1 i2 bA aA mA lA kA eA dA fA cA gA hA iA jA (fun y0 y1 y2 y3 y4 y5 y6 y7 y8 y9 y10 y11 y12 y13 y14 y15=>(hid (ct7 Kb3 Kb5)) (fr7 y0 y1 y2 y3 y4 y5 y6 y7 y8 y9 y10 y11 y12 y13 y14 y15)):=by kernel_rfl
theorem P7 (l0 p1 i2 bA aA mA lA kA eA dA fA cA gA hA iA jA) (Kb3 Kb5:ah U El):ct7 Kb3 Kb5 (fr7 l0 p1 i2 bA aA mA lA kA eA dA fA cA gA hA iA jA)=sh7 l0 p1 i2 bA aA mA lA kA eA dA fA cA gA hA iA jA (fun y0 y1 y2 y3 y4 y5 y6 y7 y8 y9 y10 y11 y12 y13 y14=>Kb5 (fr5 y0 y1 y2 y3 y4 y5 y6 y7 y8 y9 y10 y11 y12 y13 y14)):=by kernel_rfl
noncomputable def f3 (bA:Bool) (aA:Bool):R:=sh3 bA aA
noncomputable def f5 (k4:Y4) (l0:List Work) (p1:List Slot) (i2:Int) (bA:Bool) (aA:Bool) (lA:Int) (kA:Int) (eA:List UInt8) (dA:Int) (fA:List Int) (cA:List UInt8) (gA:List Int) (hA:Int) (iA:Int) (jA:Slot):R:=sh5 l0 p1 i2 bA aA lA kA eA dA fA cA gA hA iA jA k4
noncomputable def f7 (k4:Y4) (l0:List Work) (p1:List Slot) (i2:Int) (bA:Bool) (aA:Bool) (mA:Int) (lA:Int) (kA:Int) (eA:List UInt8) (dA:Int) (fA:List Int) (cA:List UInt8) (gA:List Int) (hA:Int) (iA:Int) (jA:Slot):R:=sh7 l0 p1 i2 bA aA mA lA kA eA dA fA cA gA hA iA jA (f5 k4)
noncomputable def f6 (k4:Y4) (l0:List Work) (p1:List Slot) (i2:Int) (bA:Bool) (aA:Bool) (mA:Int) (lA:Int) (kA:Int) (eA:List UInt8) (dA:Int) (fA:List Int) (cA:List UInt8) (gA:List Int) (hA:Int) (iA:Int) (jA:Slot):R:=sh6 l0 p1 i2 bA aA mA lA kA eA dA fA cA gA hA iA jA (f7 k4)
noncomputable def f4:Nat→Y4
  | 0=>fun _ _ _ _ _ _ _ _ _ _ _ _ _ _ _=>none
  | n+1=>fun l0 p1 i2 bA aA lA kA eA dA fA cA gA hA iA jA=>sh4 l0 p1 i2 bA aA lA kA eA dA fA cA gA hA iA jA f3 (f5 (f4 n)) (f6 (f4 n))
noncomputable def f1 (l0:List Work) (p1:List Slot) (i2:Int) (eA:List UInt8) (dA:Int) (fA:List Int) (cA:List UInt8) (gA:List Int) (hA:Int) (iA:Int) (jA:Slot):R:=sh1 l0 p1 i2 eA dA fA cA gA hA iA jA (f4 100000)
noncomputable def f2:Nat→Y2
  | 0=>fun _ _ _ _ _ _ _ _ _ _ _ _ _ _=>none
  | n+1=>fun l0 p1 i2 oA pA nA eA dA fA cA gA hA iA jA=>sh2 l0 p1 i2 oA pA nA eA dA fA cA gA hA iA jA f1 (f2 n)
noncomputable def f0 (l:List Work) (p:List Slot) (i:Int):R:=sh0 l p i (f2 100000)
theorem T3 (bA aA):(hid ct3) (fr3 bA aA)=f3 bA aA:=by
  refine (congrFun (am _) _).trans <| (P3 bA aA).trans ?_
  show _=sh3 bA aA
  rfl
theorem T5 (KL4:ah U El) (k4:Y4) (h4:∀ l0 p1 i2 bA aA lA kA eA dA fA cA gA hA iA jA,KL4 (fr4 l0 p1 i2 bA aA lA kA eA dA fA cA gA hA iA jA)=k4 l0 p1 i2 bA aA lA kA eA dA fA cA gA hA iA jA) (l0 p1 i2 bA aA lA kA eA dA fA cA gA hA iA jA):(hid (ct5 (hid ct3) KL4)) (fr5 l0 p1 i2 bA aA lA kA eA dA fA cA gA hA iA jA)=f5 k4 l0 p1 i2 bA aA lA kA eA dA fA cA gA hA iA jA:=by
  refine (congrFun (am _) _).trans <| (P5 l0 p1 i2 bA aA lA kA eA dA fA cA gA hA iA jA (hid ct3) KL4).trans ?_
  show _=sh5 l0 p1 i2 bA aA lA kA eA dA fA cA gA hA iA jA k4
  simp only [h4]
theorem T7 (KL4:ah U El) (k4:Y4) (h4:∀ l0 p1 i2 bA aA lA kA eA dA fA cA gA hA iA jA,KL4 (fr4 l0 p1 i2 bA aA lA kA eA dA fA cA gA hA iA jA)=k4 l0 p1 i2 bA aA lA kA eA dA fA cA gA hA iA jA) (l0 p1 i2 bA aA mA lA kA eA dA fA cA gA hA iA jA):(hid (ct7 (hid ct3) (hid (ct5 (hid ct3) KL4)))) (fr7 l0 p1 i2 bA aA mA lA kA eA dA fA cA gA hA iA jA)=f7 k4 l0 p1 i2 bA aA mA lA kA eA dA fA cA gA hA iA jA:=by
  refine (congrFun (am _) _).trans <| (P7 l0 p1 i2 bA aA mA lA kA eA dA fA cA gA hA iA jA (hid ct3) (hid (ct5 (hid ct3) KL4))).trans ?_
  show _=sh7 l0 p1 i2 bA aA mA lA kA eA dA fA cA gA hA iA jA (f5 k4)
  simp only [T5 KL4 k4 h4]
theorem T6 (KL4:ah U El) (k4:Y4) (h4:∀ l0 p1 i2 bA aA lA kA eA dA fA cA gA hA iA jA,KL4 (fr4 l0 p1 i2 bA aA lA kA eA dA fA cA gA hA iA jA)=k4 l0 p1 i2 bA aA lA kA eA dA fA cA gA hA iA jA) (l0 p1 i2 bA aA mA lA kA eA dA fA cA gA hA iA jA):(hid (ct6 (hid ct3) (hid (ct5 (hid ct3) KL4)))) (fr6 l0 p1 i2 bA aA mA lA kA eA dA fA cA gA hA iA jA)=f6 k4 l0 p1 i2 bA aA mA lA kA eA dA fA cA gA hA iA jA:=by
  refine (congrFun (am _) _).trans <| (P6 l0 p1 i2 bA aA mA lA kA eA dA fA cA gA hA iA jA (hid ct3) (hid (ct5 (hid ct3) KL4))).trans ?_
  show _=sh6 l0 p1 i2 bA aA mA lA kA eA dA fA cA gA hA iA jA (f7 k4)
  simp only [T7 KL4 k4 h4]
theorem T4:∀ (n:Nat),∀ l0 p1 i2 bA aA lA kA eA dA fA cA gA hA iA jA,it4 (hid ct3) n (fr4 l0 p1 i2 bA aA lA kA eA dA fA cA gA hA iA jA)=f4 n l0 p1 i2 bA aA lA kA eA dA fA cA gA hA iA jA:=by
  intro n
  induction n with
  | zero=>intros; rfl
  | succ n ih =>
    intro l0 p1 i2 bA aA lA kA eA dA fA cA gA hA iA jA
    refine (P4 l0 p1 i2 bA aA lA kA eA dA fA cA gA hA iA jA (hid ct3) (it4 (hid ct3) n)).trans ?_
    show _=sh4 l0 p1 i2 bA aA lA kA eA dA fA cA gA hA iA jA f3 (f5 (f4 n)) (f6 (f4 n))
    simp only [T3,T5 (it4 (hid ct3) n) (f4 n) ih,T6 (it4 (hid ct3) n) (f4 n) ih]
theorem H4 (l0 p1 i2 bA aA lA kA eA dA fA cA gA hA iA jA):hid (it4 (hid ct3) 100000) (fr4 l0 p1 i2 bA aA lA kA eA dA fA cA gA hA iA jA)=f4 100000 l0 p1 i2 bA aA lA kA eA dA fA cA gA hA iA jA:=(congrFun (am _) _).trans (T4 100000 l0 p1 i2 bA aA lA kA eA dA fA cA gA hA iA jA)
theorem T1 (l0 p1 i2 eA dA fA cA gA hA iA jA):(hid ct1) (fr1 l0 p1 i2 eA dA fA cA gA hA iA jA)=f1 l0 p1 i2 eA dA fA cA gA hA iA jA:=by
  refine (congrFun (am _) _).trans <| (P1 l0 p1 i2 eA dA fA cA gA hA iA jA).trans ?_
  show _=sh1 l0 p1 i2 eA dA fA cA gA hA iA jA (f4 100000)
  simp only [H4]
theorem T2:∀ (n:Nat),∀ l0 p1 i2 oA pA nA eA dA fA cA gA hA iA jA,it2 (hid ct1) n (fr2 l0 p1 i2 oA pA nA eA dA fA cA gA hA iA jA)=f2 n l0 p1 i2 oA pA nA eA dA fA cA gA hA iA jA:=by
  intro n
  induction n with
  | zero=>intros; rfl
  | succ n ih =>
    intro l0 p1 i2 oA pA nA eA dA fA cA gA hA iA jA
    refine (P2 l0 p1 i2 oA pA nA eA dA fA cA gA hA iA jA (hid ct1) (it2 (hid ct1) n)).trans ?_
    show _=sh2 l0 p1 i2 oA pA nA eA dA fA cA gA hA iA jA f1 (f2 n)
    simp only [T1,ih]
theorem H2 (l0 p1 i2 oA pA nA eA dA fA cA gA hA iA jA):hid (it2 (hid ct1) 100000) (fr2 l0 p1 i2 oA pA nA eA dA fA cA gA hA iA jA)=f2 100000 l0 p1 i2 oA pA nA eA dA fA cA gA hA iA jA:=(congrFun (am _) _).trans (T2 100000 l0 p1 i2 oA pA nA eA dA fA cA gA hA iA jA)
theorem T0 (l p i):ak X bd (.seq none .d (.seq none (.region [(10,9),(11,10)]) (.seq none .d (.seq (some nm1) (.seq none .d (.block (.loop nm2 .d))) (.seq none .d (.seq (some nm3) (.seq none .d (.block (.loop nm4 (.seq none .d (.seq none .d (.seq (some nm5) (.block (.seq none .d (.seq (some nm6) .d (.seq (some nm7) .d .d)))) .d)))))) .d)))))) (fr0 l p i) RR (fun _ _=>none) RR=f0 l p i:=by
  refine (P0 l p i).trans ?_
  show _=sh0 l p i (f2 100000)
  simp only [H2]
theorem run (l p i):aS X bd (.seq none .d (.seq none (.region [(10,9),(11,10)]) (.seq none .d (.seq (some nm1) (.seq none .d (.block (.loop nm2 .d))) (.seq none .d (.seq (some nm3) (.seq none .d (.block (.loop nm4 (.seq none .d (.seq none .d (.seq (some nm5) (.block (.seq none .d (.seq (some nm6) .d (.seq (some nm7) .d .d)))) .d)))))) .d)))))) nmR [8] [] [(.lst .work l),(.lst .slot p),(.int .i64 i),(.fn 53 [] [])]=f0 l p i:=T0 l p i
theorem others (l : List Work) (p : List Slot) (i : Nat) (h : FF l p i) (h0 : 0 ≤ (List.getD p i aa).ss) (h9 : (List.getD p i aa).ss ≤ 1000000) (b0 : List UInt8) (b2 b4 : List Int) (b5 b6 : Int) : ∀ (n k : Nat) (c t : Bool), l.length < n + k → k ≤ l.length → f4 n l p (i : Int) c t (Int.ofNat l.length) (k : Int) b0 (List.getD l i ab).wh b2 (List.getD l i ab).ws b4 b5 b6 (List.getD p i aa) = f3 (c || ch (cS l p i) (l.length - k) k) (t || ch (dK l p i) (l.length - k) k) := by
  intro n
  induction n with
  | zero=>intro k c t h1 h2; omega
  | succ n ih =>
    intro k c t h1 h2
    have hn:=h.n
    show sh4 l p (i:Int) c t (Int.ofNat l.length) (k:Int) b0 (List.getD l i ab).wh b2 (List.getD l i ab).ws b4 b5 b6 (List.getD p i aa) f3 (f5 (f4 n)) (f6 (f4 n))=_
    unfold sh4
    by_cases hk:k < l.length
    · have hkp : k < p.length := by rw [h.lp]; exact hk
      obtain ⟨a1,a2⟩:=h.wh i h.hi
      obtain ⟨a3,a4⟩:=h.wh k hk
      have e5:∀ c t:Bool,f5 (f4 n) l p (i:Int) c t (Int.ofNat l.length) (k:Int) b0 (List.getD l i ab).wh b2 (List.getD l i ab).ws b4 b5 b6 (List.getD p i aa)=f3 (c||ch (cS l p i) (l.length - (k+1)) (k+1)) (t||ch (dK l p i) (l.length - (k+1)) (k+1)):=fun c t=>by
        show f4 n l p (i:Int) c t (Int.ofNat l.length) (IntKind.wrap .i64 ((k:Int)+1)) b0 (List.getD l i ab).wh b2 (List.getD l i ab).ws b4 b5 b6 (List.getD p i aa)=_
        rw [bl k (by omega)]
        exact ih (k+1) c t (by omega) hk
      have e7:∀ c t:Bool,f7 (f4 n) l p (i:Int) c t (k:Int) (Int.ofNat l.length) (k:Int) b0 (List.getD l i ab).wh b2 (List.getD l i ab).ws b4 b5 b6 (List.getD p i aa)=f3 (c||ch (cS l p i) (l.length - (k+1)) (k+1)) ((t||(!((List.getD l i ab).ws == ([]:List UInt8))&&((List.getD l k ab).ws == (List.getD l i ab).ws)))||ch (dK l p i) (l.length - (k+1)) (k+1)):=fun c t=>by
        show sh7 l p (i:Int) c t (k:Int) (Int.ofNat l.length) (k:Int) b0 (List.getD l i ab).wh b2 (List.getD l i ab).ws b4 b5 b6 (List.getD p i aa) (f5 (f4 n))=_
        unfold sh7
        rw [a8 hk,aw,e5,e5,e5]
        cases t<;>cases ((List.getD l i ab).ws == ([]:List UInt8))<;>rfl
      have e6:f6 (f4 n) l p (i:Int) c t (k:Int) (Int.ofNat l.length) (k:Int) b0 (List.getD l i ab).wh b2 (List.getD l i ab).ws b4 b5 b6 (List.getD p i aa)=f3 ((c||((List.getD p k aa).sc == (List.getD p i aa).sc))||ch (cS l p i) (l.length - (k+1)) (k+1)) ((t||(!((List.getD l i ab).ws == ([]:List UInt8))&&((List.getD l k ab).ws == (List.getD l i ab).ws)))||ch (dK l p i) (l.length - (k+1)) (k+1)):=by
        show sh6 l p (i:Int) c t (k:Int) (Int.ofNat l.length) (k:Int) b0 (List.getD l i ab).wh b2 (List.getD l i ab).ws b4 b5 b6 (List.getD p i aa) (f7 (f4 n))=_
        unfold sh6
        rw [a8 hkp,aw,e7,e7]
        cases c<;>rfl
      rw [bf (by simp; omega),a8 hk,a8 hkp,aw,e5,e6,cB (by omega) (by omega),cB (by omega) (by omega),show l.length - k=(l.length - (k+1))+1 by omega]
      simp only [ch,cS,dK,fE]
      generalize ch (cS l p i) (l.length - (k+1)) (k+1)=X
      generalize ch (dK l p i) (l.length - (k+1)) (k+1)=Y
      simp only [Bool.or_assoc]
      cases ((k:Int) == (i:Int))<;>cases ile ((List.getD p i aa).ss+(List.getD l i ab).wh) (List.getD p k aa).ss<;>cases ile (List.getD p k aa).ss ((List.getD p i aa).ss - (List.getD l k ab).wh)<;>rfl
    · have : k = l.length := by omega
      subst this
      rw [a6 (by simp),Nat.sub_self]
      simp only [ch,Bool.or_false]
      rfl
theorem order (l:List Work) (p:List Slot) (i:Nat) (h:FF l p i) (h0:0≤(List.getD p i aa).ss) (h9:(List.getD p i aa).ss≤1000000) (b0:List UInt8) (b1:Int) (b2:List Int) (b3:List UInt8) (b4:List Int) (b5 b6:Int):∀ (n j:Nat),(List.getD l i ab).wa.length < n+j→j≤(List.getD l i ab).wa.length→f2 n l p (i:Int) (List.getD l i ab).wa (Int.ofNat (List.getD l i ab).wa.length) (j:Int) b0 b1 b2 b3 b4 b5 b6 (List.getD p i aa)=bif List.any ((List.getD l i ab).wa.drop j) (gQ l p i) then bO 17 else f1 l p (i:Int) b0 b1 b2 b3 b4 b5 b6 (List.getD p i aa):=by
  have hwa:=h.wa
  have hin:=h.ain
  revert hwa hin
  generalize (List.getD l i ab).wa=wa
  intro hwa hin n
  induction n with
  | zero=>intro j h1 h2; omega
  | succ n ih =>
    intro j h1 h2
    show sh2 l p (i:Int) wa (Int.ofNat wa.length) (j:Int) b0 b1 b2 b3 b4 b5 b6 (List.getD p i aa) f1 (f2 n)=_
    unfold sh2
    by_cases hj:j < wa.length
    · have hb := hin _ (List.getElem_mem hj)
      have hb2:=hb
      simp only [inb,Bool.and_eq_true] at hb2
      have q1:=dw hb2.1; have q2:=oO hb2.2
      obtain ⟨a3,a4⟩:=h.wh (Int.toNat wa[j]) (by omega)
      rw [bf (by simp; omega),a8 hj,aw,aD hj,hb,h.lp,hb,bl j (by omega),ih (j+1) (by omega) hj,aZ hj,List.any_cons,cB (by omega) (by omega)]
      show af (gQ l p i wa[j]) _ _=_
      cases gQ l p i wa[j]<;>rfl
    · have : j = wa.length := by omega
      subst this
      rw [a6 (by simp),List.drop_length]
      rfl
theorem f0_eq (l:List Work) (p:List Slot) (i:Int) (h:okF l p i=true):f0 l p i=bO (bG l p i):=by
  obtain ⟨q,rfl,hf⟩:=p9 h
  have hn:=hf.n
  have hqp:q < p.length:=by rw [hf.lp]; exact hf.hi
  show sh0 l p (q:Int) (f2 100000)=_
  unfold sh0 bG eB
  rw [a8 hf.hi,a8 hqp,aw,bz hf.wc]
  cases ((List.getD p q aa).sw != (q:Int))
  case true=>rfl
  cases List.any (List.getD l q ab).wc (bK (List.getD p q aa).sc)
  · rfl
  by_cases hs:0≤(List.getD p q aa).ss∧(List.getD p q aa).ss≤1000000
  · have e : ∀ b0 b1 b2 b3 b4 b5 b6, f2 100000 l p (q : Int) (List.getD l q ab).wa (Int.ofNat (List.getD l q ab).wa.length) 0 b0 b1 b2 b3 b4 b5 b6 (List.getD p q aa) = bif List.any (List.getD l q ab).wa (gQ l p q) then bO 17 else f1 l p (q : Int) b0 b1 b2 b3 b4 b5 b6 (List.getD p q aa) := fun b0 b1 b2 b3 b4 b5 b6 => order l p q hf hs.1 hs.2 b0 b1 b2 b3 b4 b5 b6 100000 0 (by have := hf.wa; omega) (by omega)
    rw [bP hs.1,bP hs.2,e]
    cases List.any (List.getD l q ab).wa (gQ l p q)
    case true=>rfl
    show f4 100000 l p (q:Int) false false (Int.ofNat l.length) ((0:Nat):Int) _ (List.getD l q ab).wh _ (List.getD l q ab).ws _ _ _ (List.getD p q aa)=_
    rw [others l p q hf hs.1 hs.2 _ _ _ _ _ 100000 0 false false (by omega) (by omega),Nat.sub_zero]
    cases ch (cS l p q) l.length 0<;>cases ch (dK l p q) l.length 0<;>rfl
  · have : (ile 0 (List.getD p q aa).ss && ile (List.getD p q aa).ss 1000000) = false := by
      by_cases h1:0≤(List.getD p q aa).ss
      · rw [eD (show ¬ (List.getD p q aa).ss≤1000000 by omega),Bool.and_false]
      · rw [eD h1,Bool.false_and]
    rw [this]
    rfl
theorem ok:CtxOk Tryz.prog X:=aO tab (spC within.spOk (spC every.spOk (spC hasI.spOk spN))) dpN
theorem okM:MOk Tryz.prog X:=fun g sp h=>by cases h
theorem spec (l:List Work) (p:List Slot) (i:Int) (h:(okF l p i)=true):ar Tryz.prog E 52 [(.lst .work l),(.lst .slot p),(.int .i64 i),(.fn 53 [] [])] (.int .i64 (bG l p i)) [] :=
  al ok okM Tryz.call52 Tryz.func52 (by kernel_rfl) (by kernel_rfl) (by kernel_rfl) (by show 4≤138; decide) (by decide) (by rfl) ((run l p i).trans (f0_eq l p i h))
noncomputable def sp:Sp U El:=fun args k=>match args with
  | [.lst .work l,.lst .slot p,.int .i64 i,.fn 53 [] []]=>chk (okF l p i) (k (.int .i64 (bG l p i)) [])
  | _=>none
theorem spOk:SpOk Tryz.prog E 52 sp where
  det:=fun vs=>by
    unfold sp
    split
    · exact ba _ _ _
    · exact ⟨none,fun _=>rfl⟩
  ok:=fun vs k r h=>by
    unfold sp at h
    split at h
    · obtain ⟨h1, h2⟩ := ae h
      exact ⟨_,_,spec _ _ _ h1,h2⟩
    · cases h
end fault
namespace rend
noncomputable def bd:Code:=(Tryz.f49.body).getD .skip
noncomputable def X:Ctx U El:=⟨E,tds,zeros,eqs,aH [],100000,14,aB [],fun _=>none⟩
noncomputable def nmR:Norm U:=⟨[],[4],[],[],[],[],[]⟩
noncomputable def RR:ah U El:=fun st=>aL nmR st (aG [4] [])
noncomputable def fr0 (l:List Work) (s:Slot):St U El:=⟨[(0,(.lst .work l)),(1,(.agg [(.int .i64 s.sw),(.int .i64 s.sc),(.int .i64 s.ss)]))],[]⟩
noncomputable def sh0 (l:List Work) (s:Slot):R :=
  chk (inb s.sw (List.length l)) (some ((.int .i64 (IntKind.wrap .i64 (s.ss+(List.getD l (Int.toNat s.sw) ab).wh))),[]))
theorem P0 (l s):ak X (cdp [] bd) .d (fr0 l s) RR (fun _ _=>none) RR=sh0 l s:=by kernel_rfl
noncomputable def f0 (l:List Work) (s:Slot):R:=sh0 l s
theorem T0 (l s):ak X bd .d (fr0 l s) RR (fun _ _=>none) RR=f0 l s:=by
  refine (P0 l s).trans ?_
  show _=sh0 l s
  rfl
theorem run (l s):aS X bd .d nmR [4] [] [(.lst .work l),(.agg [(.int .i64 s.sw),(.int .i64 s.sc),(.int .i64 s.ss)])]=f0 l s:=T0 l s
theorem f0_eq (l:List Work) (s:Slot) (h:inb (Slot.sw s) (List.length l)=true):f0 l s=bO (aV l s):=by
  show sh0 l s=_
  unfold sh0
  rw [h]
  rfl
theorem ok:CtxOk Tryz.prog X:=aO tab spN dpN
theorem okM:MOk Tryz.prog X:=fun g sp h=>by cases h
theorem spec (l:List Work) (s:Slot) (h:(inb (Slot.sw s) (List.length l))=true):ar Tryz.prog E 49 [(.lst .work l),(.agg [(.int .i64 s.sw),(.int .i64 s.sc),(.int .i64 s.ss)])] (.int .i64 (aV l s)) [] :=
  al ok okM Tryz.call49 Tryz.func49 (by kernel_rfl) (by kernel_rfl) (by kernel_rfl) (by show 2≤14; decide) (by decide) (by rfl) ((run l s).trans (f0_eq l s h))
noncomputable def sp:Sp U El:=fun args k=>match args with
  | [.lst .work l,.agg [.int .i64 s_sw,.int .i64 s_sc,.int .i64 s_ss]]=>chk (inb (Slot.sw (⟨s_sw,s_sc,s_ss⟩:Slot)) (List.length l)) (k (.int .i64 (aV l (⟨s_sw,s_sc,s_ss⟩:Slot))) [])
  | _=>none
theorem spOk:SpOk Tryz.prog E 49 sp where
  det:=fun vs=>by
    unfold sp
    split
    · exact ba _ _ _
    · exact ⟨none,fun _=>rfl⟩
  ok:=fun vs k r h=>by
    unfold sp at h
    split at h
    · obtain ⟨h1, h2⟩ := ae h
      exact ⟨_,_,spec _ ⟨_,_,_⟩ h1,h2⟩
    · cases h
end rend
namespace rmeets
noncomputable def bd:Code:=(Tryz.f80.body).getD .skip
noncomputable def X:Ctx U El:=⟨E,tds,zeros,eqs,aH [(49,rend.sp)],100000,21,aB [],fun _=>none⟩
noncomputable def nmR:Norm U:=⟨[],[6],[],[],[],[],[]⟩
noncomputable def RR:ah U El:=fun st=>aL nmR st (aG [6] [])
noncomputable def fr0 (l:List Work) (a:Slot) (b:Slot):St U El:=⟨[(0,(.lst .work l)),(1,(.agg [(.int .i64 a.sw),(.int .i64 a.sc),(.int .i64 a.ss)])),(2,(.agg [(.int .i64 b.sw),(.int .i64 b.sc),(.int .i64 b.ss)]))],[]⟩
noncomputable def sh0 (l:List Work) (a:Slot) (b:Slot):R :=
  chk (inb (Slot.sw b) (List.length l)) (af (ilt a.ss (aV l b)) (chk (inb (Slot.sw a) (List.length l)) (some ((.bool (ilt b.ss (aV l a))),[]))) (some ((.bool false),[])))
theorem P0 (l a b):ak X (cdp [] bd) .d (fr0 l a b) RR (fun _ _=>none) RR=sh0 l a b:=by kernel_rfl
noncomputable def f0 (l:List Work) (a:Slot) (b:Slot):R:=sh0 l a b
theorem T0 (l a b):ak X bd .d (fr0 l a b) RR (fun _ _=>none) RR=f0 l a b:=by
  refine (P0 l a b).trans ?_
  show _=sh0 l a b
  rfl
theorem run (l a b):aS X bd .d nmR [6] [] [(.lst .work l),(.agg [(.int .i64 a.sw),(.int .i64 a.sc),(.int .i64 a.ss)]),(.agg [(.int .i64 b.sw),(.int .i64 b.sc),(.int .i64 b.ss)])]=f0 l a b:=T0 l a b
theorem f0_eq (l:List Work) (a b:Slot) (h:(inb (Slot.sw a) (List.length l)&&inb (Slot.sw b) (List.length l))=true):f0 l a b=a7 (ilt (Slot.ss a) (aV l b)&&ilt (Slot.ss b) (aV l a)):=by
  simp only [Bool.and_eq_true] at h
  show sh0 l a b=_
  unfold sh0
  rw [h.1,h.2]
  exact kY a7 _ _
theorem ok:CtxOk Tryz.prog X:=aO tab (spC rend.spOk spN) dpN
theorem okM:MOk Tryz.prog X:=fun g sp h=>by cases h
theorem spec (l:List Work) (a:Slot) (b:Slot) (h:((inb (Slot.sw a) (List.length l)&&inb (Slot.sw b) (List.length l)))=true):ar Tryz.prog E 80 [(.lst .work l),(.agg [(.int .i64 a.sw),(.int .i64 a.sc),(.int .i64 a.ss)]),(.agg [(.int .i64 b.sw),(.int .i64 b.sc),(.int .i64 b.ss)])] (.bool ((ilt (Slot.ss a) (aV l b)&&ilt (Slot.ss b) (aV l a)))) [] :=
  al ok okM Tryz.call80 Tryz.func80 (by kernel_rfl) (by kernel_rfl) (by kernel_rfl) (by show 3≤21; decide) (by decide) (by rfl) ((run l a b).trans (f0_eq l a b h))
noncomputable def sp:Sp U El:=fun args k=>match args with
  | [.lst .work l,.agg [.int .i64 a_sw,.int .i64 a_sc,.int .i64 a_ss],.agg [.int .i64 b_sw,.int .i64 b_sc,.int .i64 b_ss]]=>chk ((inb (Slot.sw (⟨a_sw,a_sc,a_ss⟩:Slot)) (List.length l)&&inb (Slot.sw (⟨b_sw,b_sc,b_ss⟩:Slot)) (List.length l))) (k (.bool ((ilt (Slot.ss (⟨a_sw,a_sc,a_ss⟩:Slot)) (aV l (⟨b_sw,b_sc,b_ss⟩:Slot))&&ilt (Slot.ss (⟨b_sw,b_sc,b_ss⟩:Slot)) (aV l (⟨a_sw,a_sc,a_ss⟩:Slot))))) [])
  | _=>none
theorem spOk:SpOk Tryz.prog E 80 sp where
  det:=fun vs=>by
    unfold sp
    split
    · exact ba _ _ _
    · exact ⟨none,fun _=>rfl⟩
  ok:=fun vs k r h=>by
    unfold sp at h
    split at h
    · obtain ⟨h1, h2⟩ := ae h
      exact ⟨_,_,spec _ ⟨_,_,_⟩ ⟨_,_,_⟩ h1,h2⟩
    · cases h
end rmeets
end Go.Proofs.YthdklallcljhlaaGreatDoor
