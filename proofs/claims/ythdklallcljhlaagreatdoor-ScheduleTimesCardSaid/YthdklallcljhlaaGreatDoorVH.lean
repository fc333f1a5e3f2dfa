/- The first fault of a slot. -/
import Derived.Test.YthdklallcljhlaaGreatDoorVE
namespace Go.Proofs.YthdklallcljhlaaGreatDoor
set_option linter.unusedSectionVars false
set_option linter.unusedSimpArgs false
set_option linter.unusedVariables false
set_option maxRecDepth 100000
noncomputable def mj (l:List Work) (p:List Slot) (i k:Nat):Bool := !((k:Int) == (i:Int))&&(!(ile ((List.getD p i ae).ss+(List.getD l i ac).wh) (List.getD p k ae).ss) && !(ile (List.getD p k ae).ss ((List.getD p i ae).ss - (List.getD l k ac).wh)))
noncomputable def eT (l:List Work) (p:List Slot) (i k:Nat):Bool:=mj l p i k&&((List.getD p k ae).sc == (List.getD p i ae).sc)
noncomputable def eU (l:List Work) (p:List Slot) (i k:Nat):Bool:=mj l p i k&&(!((List.getD l i ac).ws == ([]:List UInt8))&&((List.getD l k ac).ws == (List.getD l i ac).ws))
def dI (f:Nat→Bool):Nat→Nat→Bool
  | 0,_=>false
  | n+1,k=>f k||dI f n (k+1)
noncomputable def ml (l:List Work) (p:List Slot) (i:Nat) (a:Int):Bool:=ilt ((List.getD p i ae).ss - (List.getD l (Int.toNat a) ac).wh) (List.getD p (Int.toNat a) ae).ss
noncomputable def en (l:List Work) (p:List Slot) (i:Nat):Int :=
  bif (List.getD p i ae).sw != (i:Int) then 25 else bif !(List.any (List.getD l i ac).wc (cS (List.getD p i ae).sc)) then 11 else bif !(ile 0 (List.getD p i ae).ss&&ile (List.getD p i ae).ss 1000000) then 2 else bif List.any (List.getD l i ac).wa (ml l p i) then 17 else bif dI (eT l p i) l.length 0 then 10 else bif dI (eU l p i) l.length 0 then 15 else 0
noncomputable def cQ (l:List Work) (p:List Slot) (i:Int):Int:=en l p (Int.toNat i)
noncomputable def okF (l:List Work) (p:List Slot) (i:Int):Bool:=okO l&&(List.all l (fun w=>nle w.wc.length 90000&&(ile 0 w.wh&&ile w.wh 1000))&&(Nat.beq p.length l.length&&inb i l.length))
noncomputable def bh (l:List Work) (s:Slot):Int:=IntKind.wrap .i64 (s.ss+(List.getD l (Int.toNat s.sw) ac).wh)
structure FF (l:List Work) (p:List Slot) (i:Nat):Prop where
  n:l.length≤90000
  lp:p.length=l.length
  hi:i < l.length
  wh:∀ k,k < l.length→0≤(List.getD l k ac).wh∧(List.getD l k ac).wh≤1000
  wc:(List.getD l i ac).wc.length≤90000
  wa:(List.getD l i ac).wa.length≤90000
  ain:∀ a∈(List.getD l i ac).wa,inb a l.length=true
theorem rW {l:List Work} {p:List Slot} {i:Int} (h:okF l p i=true):∃ q:Nat,i=(q:Int)∧FF l p q:=by
  simp only [okF,Bool.and_eq_true] at h
  obtain ⟨h1,h2,h3,h4⟩:=h
  obtain ⟨g1,g2⟩:=od h1
  simp only [inb,Bool.and_eq_true] at h4
  obtain ⟨q,rfl⟩:=Int.eq_ofNat_of_zero_le (gQ h4.1)
  have hq:q < l.length:=by have:=np h4.2; simp at this; omega
  have hall:=fun k (hk:k < l.length)=>by
    have:=List.all_eq_true.1 h2 _ (List.getElem_mem hk)
    simp only [Bool.and_eq_true] at this
    exact this
  refine ⟨q,rfl,g1,Nat.eq_of_beq_eq_true h3,hq,fun k hk => ?_,?_,?_,?_⟩
  · rw [az hk]; exact ⟨gQ (hall k hk).2.1,gQ (hall k hk).2.2⟩
  · rw [az hq]; exact du (hall q hq).1
  · rw [az hq]; exact (g2 _ (List.getElem_mem hq)).1
  · rw [az hq]; exact (g2 _ (List.getElem_mem hq)).2
namespace every
noncomputable def bd:Code:=(Tryz.f53.body).getD .skip
noncomputable def X:Ctx U El:=⟨E,tds,zeros,eqs,aK [],100000,3,aC [],fun _=>none⟩
noncomputable def nmR:Norm U:=⟨[],[2],[],[],[],[],[]⟩
noncomputable def RR:ai U El:=fun st=>aN nmR st (aJ [2] [])
noncomputable def fr0 (x:Int):St U El:=⟨[(0,(.int .i64 x))],[]⟩
noncomputable def sh0 (x:Int):R :=
  some ((.bool true),[])
theorem P0 (x):al X (cdp [] bd) .d (fr0 x) RR (fun _ _=>none) RR=sh0 x:=by kernel_rfl
noncomputable def f0 (x:Int):R:=sh0 x
theorem T0 (x):al X bd .d (fr0 x) RR (fun _ _=>none) RR=f0 x:=by
  refine (P0 x).trans ?_
  show _=sh0 x
  rfl
theorem run (x):aY X bd .d nmR [2] [] [(.int .i64 x)]=f0 x:=T0 x
theorem f0_eq (x:Int):f0 x=bz true:=rfl
theorem ok:CtxOk Tryz.prog X:=aW tab spN dpN
theorem okM:MOk Tryz.prog X:=fun g sp h=>by cases h
theorem spec (x:Int):aq Tryz.prog E 53 [(.int .i64 x)] (.bool (true)) [] :=
  ap ok okM Tryz.call53 Tryz.func53 (by kernel_rfl) (by kernel_rfl) (by kernel_rfl) (by show 1≤3; decide) (by decide) (by rfl) ((run x).trans (f0_eq x))
noncomputable def sp:Sp U El:=fun args k=>match args with
  | [.int .i64 x]=>k (.bool (true)) []
  | _=>none
theorem spOk:SpOk Tryz.prog E 53 sp where
  det:=fun vs=>by
    unfold sp
    split
    · exact ⟨some (_,_),fun _=>rfl⟩
    · exact ⟨none,fun _=>rfl⟩
  ok:=fun vs k r h=>by
    unfold sp at h
    split at h
    · exact ⟨_,_,spec _,h⟩
    · cases h
end every
namespace fault
noncomputable def bd:Code:=(Tryz.f52.body).getD .skip
noncomputable def X:Ctx U El:=⟨E,tds,zeros,eqs,aK [(38,within.sp),(53,every.sp),(82,hasI.sp)],100000,138,aC [],fun _=>none⟩
noncomputable def nmR:Norm U:=⟨[],[8],[],[],[],[],[]⟩
noncomputable def RR:ai U El:=fun st=>aN nmR st (aJ [8] [])
noncomputable def nm1:Norm U:=⟨[],[0,1,2,3,9,10],[9,10],[],[],[],[(9,2,.int),(9,4,.int)]⟩
noncomputable def nm2:Norm U:=⟨[],[0,1,2,3,9,10,42,43,44],[9,10],[],[],[],[(9,2,.int),(9,4,.int)]⟩
noncomputable def nm3:Norm U:=⟨[],[13,14],[],[],[],[],[]⟩
noncomputable def nm4:Norm U:=⟨[],[0,1,2,3,9,10,13,14,64,65],[9,10],[],[],[],[(9,2,.int),(9,4,.int)]⟩
noncomputable def nm5:Norm U:=⟨[],[0,1,2,3,9,10,13,14,64,65],[9,10],[],[],[],[(9,2,.int),(9,4,.int)]⟩
noncomputable def nm6:Norm U:=⟨[],[0,1,2,3,9,10,13,14,15,64,65],[9,10],[],[],[],[(9,2,.int),(9,4,.int)]⟩
noncomputable def nm7:Norm U:=⟨[],[0,1,2,3,9,10,13,14,15,64,65],[9,10],[],[],[],[(9,2,.int),(9,4,.int)]⟩
abbrev Y1:=(List Work)→(List Slot)→Int→(List UInt8)→Int→(List Int)→(List UInt8)→(List Int)→Int→Int→Slot→R
abbrev Y2:=(List Work)→(List Slot)→Int→(List Int)→Int→Int→(List UInt8)→Int→(List Int)→(List UInt8)→(List Int)→Int→Int→Slot→R
abbrev Y3:=Bool→Bool→R
abbrev Y4:=(List Work)→(List Slot)→Int→Bool→Bool→Int→Int→(List UInt8)→Int→(List Int)→(List UInt8)→(List Int)→Int→Int→Slot→R
abbrev Y5:=(List Work)→(List Slot)→Int→Bool→Bool→Int→Int→(List UInt8)→Int→(List Int)→(List UInt8)→(List Int)→Int→Int→Slot→R
abbrev Y6:=(List Work)→(List Slot)→Int→Bool→Bool→Int→Int→Int→(List UInt8)→Int→(List Int)→(List UInt8)→(List Int)→Int→Int→Slot→R
abbrev Y7:=(List Work)→(List Slot)→Int→Bool→Bool→Int→Int→Int→(List UInt8)→Int→(List Int)→(List UInt8)→(List Int)→Int→Int→Slot→R
noncomputable def fr0 (l:List Work) (p:List Slot) (i:Int):St U El:=⟨[(0,(.lst .work l)),(1,(.lst .slot p)),(2,(.int .i64 i)),(3,(.fn 53 [] []))],[]⟩
noncomputable def fr1 (l0:List Work) (p1:List Slot) (i2:Int) (eA:List UInt8) (dA:Int) (fA:List Int) (cA:List UInt8) (gA:List Int) (hA:Int) (iA:Int) (jA:Slot):St U El:=⟨[(0,(.lst .work l0)),(1,(.lst .slot p1)),(2,(.int .i64 i2)),(3,(.fn 53 [] [])),(9,(.ptr 9 0)),(10,(.ptr 10 0))],[(9,(.box 0 [(.str eA),(.int .i64 dA),(.lst .int fA),(.str cA),(.lst .int gA),(.int .i64 hA),(.int .i64 iA)])),(10,(.box 0 [(.int .i64 jA.sw),(.int .i64 jA.sc),(.int .i64 jA.ss)]))]⟩
noncomputable def fr2 (l0:List Work) (p1:List Slot) (i2:Int) (oA:List Int) (pA:Int) (nA:Int) (eA:List UInt8) (dA:Int) (fA:List Int) (cA:List UInt8) (gA:List Int) (hA:Int) (iA:Int) (jA:Slot):St U El:=⟨[(0,(.lst .work l0)),(1,(.lst .slot p1)),(2,(.int .i64 i2)),(3,(.fn 53 [] [])),(9,(.ptr 9 0)),(10,(.ptr 10 0)),(42,(.lst .int oA)),(43,(.int .i64 pA)),(44,(.int .i64 nA))],[(9,(.box 0 [(.str eA),(.int .i64 dA),(.lst .int fA),(.str cA),(.lst .int gA),(.int .i64 hA),(.int .i64 iA)])),(10,(.box 0 [(.int .i64 jA.sw),(.int .i64 jA.sc),(.int .i64 jA.ss)]))]⟩
noncomputable def fr3 (bA:Bool) (aA:Bool):St U El:=⟨[(13,(.bool bA)),(14,(.bool aA))],[]⟩
noncomputable def fr4 (l0:List Work) (p1:List Slot) (i2:Int) (bA:Bool) (aA:Bool) (lA:Int) (kA:Int) (eA:List UInt8) (dA:Int) (fA:List Int) (cA:List UInt8) (gA:List Int) (hA:Int) (iA:Int) (jA:Slot):St U El:=⟨[(0,(.lst .work l0)),(1,(.lst .slot p1)),(2,(.int .i64 i2)),(3,(.fn 53 [] [])),(9,(.ptr 9 0)),(10,(.ptr 10 0)),(13,(.bool bA)),(14,(.bool aA)),(64,(.int .i64 lA)),(65,(.int .i64 kA))],[(9,(.box 0 [(.str eA),(.int .i64 dA),(.lst .int fA),(.str cA),(.lst .int gA),(.int .i64 hA),(.int .i64 iA)])),(10,(.box 0 [(.int .i64 jA.sw),(.int .i64 jA.sc),(.int .i64 jA.ss)]))]⟩
noncomputable def fr5 (l0:List Work) (p1:List Slot) (i2:Int) (bA:Bool) (aA:Bool) (lA:Int) (kA:Int) (eA:List UInt8) (dA:Int) (fA:List Int) (cA:List UInt8) (gA:List Int) (hA:Int) (iA:Int) (jA:Slot):St U El:=⟨[(0,(.lst .work l0)),(1,(.lst .slot p1)),(2,(.int .i64 i2)),(3,(.fn 53 [] [])),(9,(.ptr 9 0)),(10,(.ptr 10 0)),(13,(.bool bA)),(14,(.bool aA)),(64,(.int .i64 lA)),(65,(.int .i64 kA))],[(9,(.box 0 [(.str eA),(.int .i64 dA),(.lst .int fA),(.str cA),(.lst .int gA),(.int .i64 hA),(.int .i64 iA)])),(10,(.box 0 [(.int .i64 jA.sw),(.int .i64 jA.sc),(.int .i64 jA.ss)]))]⟩
noncomputable def fr6 (l0:List Work) (p1:List Slot) (i2:Int) (bA:Bool) (aA:Bool) (mA:Int) (lA:Int) (kA:Int) (eA:List UInt8) (dA:Int) (fA:List Int) (cA:List UInt8) (gA:List Int) (hA:Int) (iA:Int) (jA:Slot):St U El:=⟨[(0,(.lst .work l0)),(1,(.lst .slot p1)),(2,(.int .i64 i2)),(3,(.fn 53 [] [])),(9,(.ptr 9 0)),(10,(.ptr 10 0)),(13,(.bool bA)),(14,(.bool aA)),(15,(.int .i64 mA)),(64,(.int .i64 lA)),(65,(.int .i64 kA))],[(9,(.box 0 [(.str eA),(.int .i64 dA),(.lst .int fA),(.str cA),(.lst .int gA),(.int .i64 hA),(.int .i64 iA)])),(10,(.box 0 [(.int .i64 jA.sw),(.int .i64 jA.sc),(.int .i64 jA.ss)]))]⟩
noncomputable def fr7 (l0:List Work) (p1:List Slot) (i2:Int) (bA:Bool) (aA:Bool) (mA:Int) (lA:Int) (kA:Int) (eA:List UInt8) (dA:Int) (fA:List Int) (cA:List UInt8) (gA:List Int) (hA:Int) (iA:Int) (jA:Slot):St U El:=⟨[(0,(.lst .work l0)),(1,(.lst .slot p1)),(2,(.int .i64 i2)),(3,(.fn 53 [] [])),(9,(.ptr 9 0)),(10,(.ptr 10 0)),(13,(.bool bA)),(14,(.bool aA)),(15,(.int .i64 mA)),(64,(.int .i64 lA)),(65,(.int .i64 kA))],[(9,(.box 0 [(.str eA),(.int .i64 dA),(.lst .int fA),(.str cA),(.lst .int gA),(.int .i64 hA),(.int .i64 iA)])),(10,(.box 0 [(.int .i64 jA.sw),(.int .i64 jA.sc),(.int .i64 jA.ss)]))]⟩
noncomputable def sh0 (l:List Work) (p:List Slot) (i:Int) (k2:Y2):R :=
  chk (inb i (List.length l)) (chk (inb i (List.length p)) (aj ((List.getD p (Int.toNat i) ae).sw != i) (some ((.int .i64 (25:Int)),[])) (chk (nle (List.length ((List.getD l (Int.toNat i) ac).wc)) 90000) (aj (!(List.any ((List.getD l (Int.toNat i) ac).wc) (cS ((List.getD p (Int.toNat i) ae).sc)))) (some ((.int .i64 (11:Int)),[])) (aj (!((ile (0:Int) ((List.getD p (Int.toNat i) ae).ss)&&ile ((List.getD p (Int.toNat i) ae).ss) (1000000:Int)))) (some ((.int .i64 (2:Int)),[])) (k2 l p i ((List.getD l (Int.toNat i) ac).wa) (Int.ofNat (List.length ((List.getD l (Int.toNat i) ac).wa))) (0:Int) ((List.getD l (Int.toNat i) ac).wn) ((List.getD l (Int.toNat i) ac).wh) ((List.getD l (Int.toNat i) ac).wc) ((List.getD l (Int.toNat i) ac).ws) ((List.getD l (Int.toNat i) ac).wa) ((List.getD l (Int.toNat i) ac).wd) ((List.getD l (Int.toNat i) ac).wp) (List.getD p (Int.toNat i) ae)))))))
noncomputable def sh1 (l0:List Work) (p1:List Slot) (i2:Int) (eA:List UInt8) (dA:Int) (fA:List Int) (cA:List UInt8) (gA:List Int) (hA:Int) (iA:Int) (jA:Slot) (k4:Y4):R :=
  k4 l0 p1 i2 false false (Int.ofNat (List.length l0)) (0:Int) eA dA fA cA gA hA iA jA
noncomputable def sh2 (l0:List Work) (p1:List Slot) (i2:Int) (oA:List Int) (pA:Int) (nA:Int) (eA:List UInt8) (dA:Int) (fA:List Int) (cA:List UInt8) (gA:List Int) (hA:Int) (iA:Int) (jA:Slot) (k1:Y1) (k2:Y2):R :=
  aj (ilt nA pA) (chk (inb nA (List.length oA)) (chk (inb (List.getD oA (Int.toNat nA) dS) (List.length p1)) (chk (inb (List.getD oA (Int.toNat nA) dS) (List.length l0)) (aj (ilt (IntKind.wrap .i64 (jA.ss - (List.getD l0 (Int.toNat (List.getD oA (Int.toNat nA) dS)) ac).wh)) ((List.getD p1 (Int.toNat (List.getD oA (Int.toNat nA) dS)) ae).ss)) (some ((.int .i64 (17:Int)),[])) (k2 l0 p1 i2 oA pA (IntKind.wrap .i64 (nA+(1:Int))) eA dA fA cA gA hA iA jA))))) (k1 l0 p1 i2 eA dA fA cA gA hA iA jA)
noncomputable def sh3 (bA:Bool) (aA:Bool):R :=
  aj bA (some ((.int .i64 (10:Int)),[])) (aj aA (some ((.int .i64 (15:Int)),[])) (some ((.int .i64 (0:Int)),[])))
noncomputable def sh4 (l0:List Work) (p1:List Slot) (i2:Int) (bA:Bool) (aA:Bool) (lA:Int) (kA:Int) (eA:List UInt8) (dA:Int) (fA:List Int) (cA:List UInt8) (gA:List Int) (hA:Int) (iA:Int) (jA:Slot) (k3:Y3) (k5:Y5) (k6:Y6):R :=
  aj (ilt kA lA) (aj (kA == i2) (k5 l0 p1 i2 bA aA lA kA eA dA fA cA gA hA iA jA) (aj (!(true)) (k5 l0 p1 i2 bA aA lA kA eA dA fA cA gA hA iA jA) (chk (inb kA (List.length p1)) (aj (ile (IntKind.wrap .i64 (jA.ss+dA)) ((List.getD p1 (Int.toNat kA) ae).ss)) (k5 l0 p1 i2 bA aA lA kA eA dA fA cA gA hA iA jA) (chk (inb kA (List.length p1)) (chk (inb kA (List.length l0)) (aj (ile ((List.getD p1 (Int.toNat kA) ae).ss) (IntKind.wrap .i64 (jA.ss - (List.getD l0 (Int.toNat kA) ac).wh))) (k5 l0 p1 i2 bA aA lA kA eA dA fA cA gA hA iA jA) (k6 l0 p1 i2 bA aA kA lA kA eA dA fA cA gA hA iA jA)))))))) (k3 bA aA)
noncomputable def sh5 (l0:List Work) (p1:List Slot) (i2:Int) (bA:Bool) (aA:Bool) (lA:Int) (kA:Int) (eA:List UInt8) (dA:Int) (fA:List Int) (cA:List UInt8) (gA:List Int) (hA:Int) (iA:Int) (jA:Slot) (k4:Y4):R :=
  k4 l0 p1 i2 bA aA lA (IntKind.wrap .i64 (kA+(1:Int))) eA dA fA cA gA hA iA jA
noncomputable def sh6 (l0:List Work) (p1:List Slot) (i2:Int) (bA:Bool) (aA:Bool) (mA:Int) (lA:Int) (kA:Int) (eA:List UInt8) (dA:Int) (fA:List Int) (cA:List UInt8) (gA:List Int) (hA:Int) (iA:Int) (jA:Slot) (k7:Y7):R :=
  aj bA (k7 l0 p1 i2 true aA mA lA kA eA dA fA cA gA hA iA jA) (chk (inb mA (List.length p1)) (k7 l0 p1 i2 ((List.getD p1 (Int.toNat mA) ae).sc == jA.sc) aA mA lA kA eA dA fA cA gA hA iA jA))
noncomputable def sh7 (l0:List Work) (p1:List Slot) (i2:Int) (bA:Bool) (aA:Bool) (mA:Int) (lA:Int) (kA:Int) (eA:List UInt8) (dA:Int) (fA:List Int) (cA:List UInt8) (gA:List Int) (hA:Int) (iA:Int) (jA:Slot) (k5:Y5):R :=
  aj aA (k5 l0 p1 i2 bA true lA kA eA dA fA cA gA hA iA jA) (aj (!(cA == ([]:List UInt8))) (chk (inb mA (List.length l0)) (k5 l0 p1 i2 bA (((List.getD l0 (Int.toNat mA) ac).ws) == cA) lA kA eA dA fA cA gA hA iA jA)) (k5 l0 p1 i2 bA false lA kA eA dA fA cA gA hA iA jA))
noncomputable def it2 (Kb1:ai U El) (n:Nat):ai U El:=cP nm2 (fun st' K'=>al X (cdp [1,1,1,0,1,0,0] bd) .d st' K' (aS 1 (aF nm1 Kb1) (fun _ _=>none)) RR) n
noncomputable def it4 (Kb3:ai U El) (n:Nat):ai U El:=cP nm4 (fun st' K'=>al X (cdp [1,1,1,1,1,0,1,0,0] bd) (.seq none .d (.seq none .d (.seq (some nm5) (.block (.seq none .d (.seq (some nm6) .d (.seq (some nm7) .d .d)))) .d))) st' K' (aS 3 (aF nm3 Kb3) (fun _ _=>none)) RR) n
noncomputable def ct1:ai U El:=fun st=>al X (cdp [1,1,1,1] bd) (.seq none .d (.seq (some nm3) (.seq none .d (.block (.loop nm4 (.seq none .d (.seq none .d (.seq (some nm5) (.block (.seq none .d (.seq (some nm6) .d (.seq (some nm7) .d .d)))) .d)))))) .d)) st RR (fun _ _=>none) RR
noncomputable def ct3:ai U El:=fun st=>al X (cdp [1,1,1,1,1,1] bd) .d st RR (fun _ _=>none) RR
noncomputable def ct5 (Kb3 Kb4:ai U El):ai U El:=fun st=>al X (cdp [1,1,1,1,1,0,1,0,0,1,1,1] bd) .d st (aF nm4 Kb4) (aS 3 (aF nm3 Kb3) (fun _ _=>none)) RR
noncomputable def ct6 (Kb3 Kb5:ai U El):ai U El:=fun st=>al X (cdp [1,1,1,1,1,0,1,0,0,1,1,0,0,1,1] bd) (.seq (some nm7) .d .d) st (aF nm5 Kb5) (aS 4 (aF nm5 Kb5) (aS 3 (aF nm3 Kb3) (fun _ _=>none))) RR
noncomputable def ct7 (Kb3 Kb5:ai U El):ai U El:=fun st=>al X (cdp [1,1,1,1,1,0,1,0,0,1,1,0,0,1,1,1] bd) .d st (aF nm5 Kb5) (aS 4 (aF nm5 Kb5) (aS 3 (aF nm3 Kb3) (fun _ _=>none))) RR
theorem P0 (l p i):al X (cdp [] bd) (.seq none .d (.seq none (.region [(10,9),(11,10)]) (.seq none .d (.seq (some nm1) (.seq none .d (.block (.loop nm2 .d))) (.seq none .d (.seq (some nm3) (.seq none .d (.block (.loop nm4 (.seq none .d (.seq none .d (.seq (some nm5) (.block (.seq none .d (.seq (some nm6) .d (.seq (some nm7) .d .d)))) .d)))))) .d)))))) (fr0 l p i) RR (fun _ _=>none) RR=sh0 l p i (fun y0 y1 y2 y3 y4 y5 y6 y7 y8 y9 y10 y11 y12 y13=>(hid (it2 (hid ct1) 100000)) (fr2 y0 y1 y2 y3 y4 y5 y6 y7 y8 y9 y10 y11 y12 y13)):=by kernel_rfl
theorem P1 (l0 p1 i2 eA dA fA cA gA hA iA jA):ct1 (fr1 l0 p1 i2 eA dA fA cA gA hA iA jA)=sh1 l0 p1 i2 eA dA fA cA gA hA iA jA (fun y0 y1 y2 y3 y4 y5 y6 y7 y8 y9 y10 y11 y12 y13 y14=>(hid (it4 (hid ct3) 100000)) (fr4 y0 y1 y2 y3 y4 y5 y6 y7 y8 y9 y10 y11 y12 y13 y14)):=by kernel_rfl
theorem P2 (l0 p1 i2 oA pA nA eA dA fA cA gA hA iA jA) (Kb1 Kb2:ai U El):al X (cdp [1,1,1,0,1,0,0] bd) .d (fr2 l0 p1 i2 oA pA nA eA dA fA cA gA hA iA jA) (aF nm2 Kb2) (aS 1 (aF nm1 Kb1) (fun _ _=>none)) RR=sh2 l0 p1 i2 oA pA nA eA dA fA cA gA hA iA jA (fun y0 y1 y2 y3 y4 y5 y6 y7 y8 y9 y10=>Kb1 (fr1 y0 y1 y2 y3 y4 y5 y6 y7 y8 y9 y10)) (fun y0 y1 y2 y3 y4 y5 y6 y7 y8 y9 y10 y11 y12 y13=>Kb2 (fr2 y0 y1 y2 y3 y4 y5 y6 y7 y8 y9 y10 y11 y12 y13)):=by kernel_rfl
theorem P3 (bA aA):ct3 (fr3 bA aA)=sh3 bA aA:=by kernel_rfl
theorem P4 (l0 p1 i2 bA aA lA kA eA dA fA cA gA hA iA jA) (Kb3 Kb4:ai U El):al X (cdp [1,1,1,1,1,0,1,0,0] bd) (.seq none .d (.seq none .d (.seq (some nm5) (.block (.seq none .d (.seq (some nm6) .d (.seq (some nm7) .d .d)))) .d))) (fr4 l0 p1 i2 bA aA lA kA eA dA fA cA gA hA iA jA) (aF nm4 Kb4) (aS 3 (aF nm3 Kb3) (fun _ _=>none)) RR=sh4 l0 p1 i2 bA aA lA kA eA dA fA cA gA hA iA jA (fun y0 y1=>Kb3 (fr3 y0 y1)) (fun y0 y1 y2 y3 y4 y5 y6 y7 y8 y9 y10 y11 y12 y13 y14=>(hid (ct5 Kb3 Kb4)) (fr5 y0 y1 y2 y3 y4 y5 y6 y7 y8 y9 y10 y11 y12 y13 y14)) (fun y0 y1 y2 y3 y4 y5 y6 y7 y8 y9 y10 y11 y12 y13 y14 y15=>(hid (ct6 Kb3 (hid (ct5 Kb3 Kb4)))) (fr6 y0 y1 y2 y3 y4 y5 y6 y7 y8 y9 y10 y11 y12 y13 y14 y15)):=by kernel_rfl
theorem P5 (l0 p1 i2 bA aA lA kA eA dA fA cA gA hA iA jA) (Kb3 Kb4:ai U El):ct5 Kb3 Kb4 (fr5 l0 p1 i2 bA aA lA kA eA dA fA cA gA hA iA jA)=sh5 l0 p1 i2 bA aA lA kA eA dA fA cA gA hA iA jA (fun y0 y1 y2 y3 y4 y5 y6 y7 y8 y9 y10 y11 y12 y13 y14=>Kb4 (fr4 y0 y1 y2 y3 y4 y5 y6 y7 y8 y9 y10 y11 y12 y13 y14)):=by kernel_rfl
theorem P6 (l0 p1 i2 bA aA mA lA kA eA dA fA cA gA hA iA jA) (Kb3 Kb5:ai U El):ct6 Kb3 Kb5 (fr6 l0 p1 i2 bA aA mA lA kA eA dA fA cA gA hA iA jA)=sh6 l0 p1 i2 bA aA mA lA kA eA dA fA cA gA hA iA jA (fun y0 y1 y2 y3 y4 y5 y6 y7 y8 y9 y10 y11 y12 y13 y14 y15=>(hid (ct7 Kb3 Kb5)) (fr7 y0 y1 y2 y3 y4 y5 y6 y7 y8 y9 y10 y11 y12 y13 y14 y15)):=by kernel_rfl
theorem P7 (l0 p1 i2 bA aA mA lA kA eA dA fA cA gA hA iA jA) (Kb3 Kb5:ai U El):ct7 Kb3 Kb5 (fr7 l0 p1 i2 bA aA mA lA kA eA dA fA cA gA hA iA jA)=sh7 l0 p1 i2 bA aA mA lA kA eA dA fA cA gA hA iA jA (fun y0 y1 y2 y3 y4 y5 y6 y7 y8 y9 y10 y11 y12 y13 y14=>Kb5 (fr5 y0 y1 y2 y3 y4 y5 y6 y7 y8 y9 y10 y11 y12 y13 y14)):=by kernel_rfl
noncomputable def f3 (bA:Bool) (aA:Bool):R:=sh3 bA aA
noncomputable def f5 (k4:Y4) (l0:List Work) (p1:List Slot) (i2:Int) (bA:Bool) (aA:Bool) (lA:Int) (kA:Int) (eA:List UInt8) (dA:Int) (fA:List Int) (cA:List UInt8) (gA:List Int) (hA:Int) (iA:Int) (jA:Slot):R:=sh5 l0 p1 i2 bA aA lA kA eA dA fA cA gA hA iA jA k4
noncomputable def f7 (k4:Y4) (l0:List Work) (p1:List Slot) (i2:Int) (bA:Bool) (aA:Bool) (mA:Int) (lA:Int) (kA:Int) (eA:List UInt8) (dA:Int) (fA:List Int) (cA:List UInt8) (gA:List Int) (hA:Int) (iA:Int) (jA:Slot):R:=sh7 l0 p1 i2 bA aA mA lA kA eA dA fA cA gA hA iA jA (f5 k4)
noncomputable def f6 (k4:Y4) (l0:List Work) (p1:List Slot) (i2:Int) (bA:Bool) (aA:Bool) (mA:Int) (lA:Int) (kA:Int) (eA:List UInt8) (dA:Int) (fA:List Int) (cA:List UInt8) (gA:List Int) (hA:Int) (iA:Int) (jA:Slot):R:=sh6 l0 p1 i2 bA aA mA lA kA eA dA fA cA gA hA iA jA (f7 k4)
noncomputable def f4:Nat→Y4
  | 0=>fun _ _ _ _ _ _ _ _ _ _ _ _ _ _ _=>none
  | n+1=>fun l0 p1 i2 bA aA lA kA eA dA fA cA gA hA iA jA=>sh4 l0 p1 i2 bA aA lA kA eA dA fA cA gA hA iA jA f3 (f5 (f4 n)) (f6 (f4 n))
noncomputable def f1 (l0:List Work) (p1:List Slot) (i2:Int) (eA:List UInt8) (dA:Int) (fA:List Int) (cA:List UInt8) (gA:List Int) (hA:Int) (iA:Int) (jA:Slot):R:=sh1 l0 p1 i2 eA dA fA cA gA hA iA jA (f4 100000)
noncomputable def f2:Nat→Y2
  | 0=>fun _ _ _ _ _ _ _ _ _ _ _ _ _ _=>none
  | n+1=>fun l0 p1 i2 oA pA nA eA dA fA cA gA hA iA jA=>sh2 l0 p1 i2 oA pA nA eA dA fA cA gA hA iA jA f1 (f2 n)
noncomputable def f0 (l:List Work) (p:List Slot) (i:Int):R:=sh0 l p i (f2 100000)
theorem T3 (bA aA):(hid ct3) (fr3 bA aA)=f3 bA aA:=by
  refine (congrFun (au _) _).trans <| (P3 bA aA).trans ?_
  show _=sh3 bA aA
  rfl
theorem T5 (KL4:ai U El) (k4:Y4) (h4:∀ l0 p1 i2 bA aA lA kA eA dA fA cA gA hA iA jA,KL4 (fr4 l0 p1 i2 bA aA lA kA eA dA fA cA gA hA iA jA)=k4 l0 p1 i2 bA aA lA kA eA dA fA cA gA hA iA jA) (l0 p1 i2 bA aA lA kA eA dA fA cA gA hA iA jA):(hid (ct5 (hid ct3) KL4)) (fr5 l0 p1 i2 bA aA lA kA eA dA fA cA gA hA iA jA)=f5 k4 l0 p1 i2 bA aA lA kA eA dA fA cA gA hA iA jA:=by
  refine (congrFun (au _) _).trans <| (P5 l0 p1 i2 bA aA lA kA eA dA fA cA gA hA iA jA (hid ct3) KL4).trans ?_
  show _=sh5 l0 p1 i2 bA aA lA kA eA dA fA cA gA hA iA jA k4
  simp only [h4]
theorem T7 (KL4:ai U El) (k4:Y4) (h4:∀ l0 p1 i2 bA aA lA kA eA dA fA cA gA hA iA jA,KL4 (fr4 l0 p1 i2 bA aA lA kA eA dA fA cA gA hA iA jA)=k4 l0 p1 i2 bA aA lA kA eA dA fA cA gA hA iA jA) (l0 p1 i2 bA aA mA lA kA eA dA fA cA gA hA iA jA):(hid (ct7 (hid ct3) (hid (ct5 (hid ct3) KL4)))) (fr7 l0 p1 i2 bA aA mA lA kA eA dA fA cA gA hA iA jA)=f7 k4 l0 p1 i2 bA aA mA lA kA eA dA fA cA gA hA iA jA:=by
  refine (congrFun (au _) _).trans <| (P7 l0 p1 i2 bA aA mA lA kA eA dA fA cA gA hA iA jA (hid ct3) (hid (ct5 (hid ct3) KL4))).trans ?_
  show _=sh7 l0 p1 i2 bA aA mA lA kA eA dA fA cA gA hA iA jA (f5 k4)
  simp only [T5 KL4 k4 h4]
theorem T6 (KL4:ai U El) (k4:Y4) (h4:∀ l0 p1 i2 bA aA lA kA eA dA fA cA gA hA iA jA,KL4 (fr4 l0 p1 i2 bA aA lA kA eA dA fA cA gA hA iA jA)=k4 l0 p1 i2 bA aA lA kA eA dA fA cA gA hA iA jA) (l0 p1 i2 bA aA mA lA kA eA dA fA cA gA hA iA jA):(hid (ct6 (hid ct3) (hid (ct5 (hid ct3) KL4)))) (fr6 l0 p1 i2 bA aA mA lA kA eA dA fA cA gA hA iA jA)=f6 k4 l0 p1 i2 bA aA mA lA kA eA dA fA cA gA hA iA jA:=by
  refine (congrFun (au _) _).trans <| (P6 l0 p1 i2 bA aA mA lA kA eA dA fA cA gA hA iA jA (hid ct3) (hid (ct5 (hid ct3) KL4))).trans ?_
  show _=sh6 l0 p1 i2 bA aA mA lA kA eA dA fA cA gA hA iA jA (f7 k4)
  simp only [T7 KL4 k4 h4]
theorem T4:∀ (n:Nat),∀ l0 p1 i2 bA aA lA kA eA dA fA cA gA hA iA jA,it4 (hid ct3) n (fr4 l0 p1 i2 bA aA lA kA eA dA fA cA gA hA iA jA)=f4 n l0 p1 i2 bA aA lA kA eA dA fA cA gA hA iA jA:=by
  intro n
  induction n with
  | zero=>intros; rfl
  | succ n ih =>
    intro l0 p1 i2 bA aA lA kA eA dA fA cA gA hA iA jA
    refine (P4 l0 p1 i2 bA aA lA kA eA dA fA cA gA hA iA jA (hid ct3) (it4 (hid ct3) n)).trans ?_
    show _=sh4 l0 p1 i2 bA aA lA kA eA dA fA cA gA hA iA jA f3 (f5 (f4 n)) (f6 (f4 n))
    simp only [T3,T5 (it4 (hid ct3) n) (f4 n) ih,T6 (it4 (hid ct3) n) (f4 n) ih]
theorem H4 (l0 p1 i2 bA aA lA kA eA dA fA cA gA hA iA jA):hid (it4 (hid ct3) 100000) (fr4 l0 p1 i2 bA aA lA kA eA dA fA cA gA hA iA jA)=f4 100000 l0 p1 i2 bA aA lA kA eA dA fA cA gA hA iA jA:=(congrFun (au _) _).trans (T4 100000 l0 p1 i2 bA aA lA kA eA dA fA cA gA hA iA jA)
theorem T1 (l0 p1 i2 eA dA fA cA gA hA iA jA):(hid ct1) (fr1 l0 p1 i2 eA dA fA cA gA hA iA jA)=f1 l0 p1 i2 eA dA fA cA gA hA iA jA:=by
  refine (congrFun (au _) _).trans <| (P1 l0 p1 i2 eA dA fA cA gA hA iA jA).trans ?_
  show _=sh1 l0 p1 i2 eA dA fA cA gA hA iA jA (f4 100000)
  simp only [H4]
theorem T2:∀ (n:Nat),∀ l0 p1 i2 oA pA nA eA dA fA cA gA hA iA jA,it2 (hid ct1) n (fr2 l0 p1 i2 oA pA nA eA dA fA cA gA hA iA jA)=f2 n l0 p1 i2 oA pA nA eA dA fA cA gA hA iA jA:=by
  intro n
  induction n with
  | zero=>intros; rfl
  | succ n ih =>
    intro l0 p1 i2 oA pA nA eA dA fA cA gA hA iA jA
    refine (P2 l0 p1 i2 oA pA nA eA dA fA cA gA hA iA jA (hid ct1) (it2 (hid ct1) n)).trans ?_
    show _=sh2 l0 p1 i2 oA pA nA eA dA fA cA gA hA iA jA f1 (f2 n)
    simp only [T1,ih]
theorem H2 (l0 p1 i2 oA pA nA eA dA fA cA gA hA iA jA):hid (it2 (hid ct1) 100000) (fr2 l0 p1 i2 oA pA nA eA dA fA cA gA hA iA jA)=f2 100000 l0 p1 i2 oA pA nA eA dA fA cA gA hA iA jA:=(congrFun (au _) _).trans (T2 100000 l0 p1 i2 oA pA nA eA dA fA cA gA hA iA jA)
theorem T0 (l p i):al X bd (.seq none .d (.seq none (.region [(10,9),(11,10)]) (.seq none .d (.seq (some nm1) (.seq none .d (.block (.loop nm2 .d))) (.seq none .d (.seq (some nm3) (.seq none .d (.block (.loop nm4 (.seq none .d (.seq none .d (.seq (some nm5) (.block (.seq none .d (.seq (some nm6) .d (.seq (some nm7) .d .d)))) .d)))))) .d)))))) (fr0 l p i) RR (fun _ _=>none) RR=f0 l p i:=by
  refine (P0 l p i).trans ?_
  show _=sh0 l p i (f2 100000)
  simp only [H2]
theorem run (l p i):aY X bd (.seq none .d (.seq none (.region [(10,9),(11,10)]) (.seq none .d (.seq (some nm1) (.seq none .d (.block (.loop nm2 .d))) (.seq none .d (.seq (some nm3) (.seq none .d (.block (.loop nm4 (.seq none .d (.seq none .d (.seq (some nm5) (.block (.seq none .d (.seq (some nm6) .d (.seq (some nm7) .d .d)))) .d)))))) .d)))))) nmR [8] [] [(.lst .work l),(.lst .slot p),(.int .i64 i),(.fn 53 [] [])]=f0 l p i:=T0 l p i
theorem rX (l : List Work) (p : List Slot) (i : Nat) (h : FF l p i) (h0 : 0 ≤ (List.getD p i ae).ss) (h9 : (List.getD p i ae).ss ≤ 1000000) (b0 : List UInt8) (b2 b4 : List Int) (b5 b6 : Int) : ∀ (n k : Nat) (c t : Bool), l.length < n + k → k ≤ l.length → f4 n l p (i : Int) c t (Int.ofNat l.length) (k : Int) b0 (List.getD l i ac).wh b2 (List.getD l i ac).ws b4 b5 b6 (List.getD p i ae) = f3 (c || dI (eT l p i) (l.length - k) k) (t || dI (eU l p i) (l.length - k) k) := by
  intro n
  induction n with
  | zero=>intro k c t h1 h2; omega
  | succ n ih =>
    intro k c t h1 h2
    have hn:=h.n
    show sh4 l p (i:Int) c t (Int.ofNat l.length) (k:Int) b0 (List.getD l i ac).wh b2 (List.getD l i ac).ws b4 b5 b6 (List.getD p i ae) f3 (f5 (f4 n)) (f6 (f4 n))=_
    unfold sh4
    by_cases hk:k < l.length
    · have hkp : k < p.length := by rw [h.lp]; exact hk
      obtain ⟨a1,a2⟩:=h.wh i h.hi
      obtain ⟨a3,a4⟩:=h.wh k hk
      have e5:∀ c t:Bool,f5 (f4 n) l p (i:Int) c t (Int.ofNat l.length) (k:Int) b0 (List.getD l i ac).wh b2 (List.getD l i ac).ws b4 b5 b6 (List.getD p i ae)=f3 (c||dI (eT l p i) (l.length - (k+1)) (k+1)) (t||dI (eU l p i) (l.length - (k+1)) (k+1)):=fun c t=>by
        show f4 n l p (i:Int) c t (Int.ofNat l.length) (IntKind.wrap .i64 ((k:Int)+1)) b0 (List.getD l i ac).wh b2 (List.getD l i ac).ws b4 b5 b6 (List.getD p i ae)=_
        rw [cl k (by omega)]
        exact ih (k+1) c t (by omega) hk
      have e7:∀ c t:Bool,f7 (f4 n) l p (i:Int) c t (k:Int) (Int.ofNat l.length) (k:Int) b0 (List.getD l i ac).wh b2 (List.getD l i ac).ws b4 b5 b6 (List.getD p i ae)=f3 (c||dI (eT l p i) (l.length - (k+1)) (k+1)) ((t||(!((List.getD l i ac).ws == ([]:List UInt8))&&((List.getD l k ac).ws == (List.getD l i ac).ws)))||dI (eU l p i) (l.length - (k+1)) (k+1)):=fun c t=>by
        show sh7 l p (i:Int) c t (k:Int) (Int.ofNat l.length) (k:Int) b0 (List.getD l i ac).wh b2 (List.getD l i ac).ws b4 b5 b6 (List.getD p i ae) (f5 (f4 n))=_
        unfold sh7
        rw [bD hk,ar,e5,e5,e5]
        cases t<;>cases ((List.getD l i ac).ws == ([]:List UInt8))<;>rfl
      have e6:f6 (f4 n) l p (i:Int) c t (k:Int) (Int.ofNat l.length) (k:Int) b0 (List.getD l i ac).wh b2 (List.getD l i ac).ws b4 b5 b6 (List.getD p i ae)=f3 ((c||((List.getD p k ae).sc == (List.getD p i ae).sc))||dI (eT l p i) (l.length - (k+1)) (k+1)) ((t||(!((List.getD l i ac).ws == ([]:List UInt8))&&((List.getD l k ac).ws == (List.getD l i ac).ws)))||dI (eU l p i) (l.length - (k+1)) (k+1)):=by
        show sh6 l p (i:Int) c t (k:Int) (Int.ofNat l.length) (k:Int) b0 (List.getD l i ac).wh b2 (List.getD l i ac).ws b4 b5 b6 (List.getD p i ae) (f7 (f4 n))=_
        unfold sh6
        rw [bD hkp,ar,e7,e7]
        cases c<;>rfl
      rw [ci (by simp; omega),bD hk,bD hkp,ar,e5,e6,dD (by omega) (by omega),dD (by omega) (by omega),show l.length - k=(l.length - (k+1))+1 by omega]
      simp only [dI,eT,eU,mj]
      generalize dI (eT l p i) (l.length - (k+1)) (k+1)=X
      generalize dI (eU l p i) (l.length - (k+1)) (k+1)=Y
      simp only [Bool.or_assoc]
      cases ((k:Int) == (i:Int))<;>cases ile ((List.getD p i ae).ss+(List.getD l i ac).wh) (List.getD p k ae).ss<;>cases ile (List.getD p k ae).ss ((List.getD p i ae).ss - (List.getD l k ac).wh)<;>rfl
    · have : k = l.length := by omega
      subst this
      rw [bZ (by simp),Nat.sub_self]
      simp only [dI,Bool.or_false]
      rfl
theorem eV (l:List Work) (p:List Slot) (i:Nat) (h:FF l p i) (h0:0≤(List.getD p i ae).ss) (h9:(List.getD p i ae).ss≤1000000) (b0:List UInt8) (b1:Int) (b2:List Int) (b3:List UInt8) (b4:List Int) (b5 b6:Int):∀ (n j:Nat),(List.getD l i ac).wa.length < n+j→j≤(List.getD l i ac).wa.length→f2 n l p (i:Int) (List.getD l i ac).wa (Int.ofNat (List.getD l i ac).wa.length) (j:Int) b0 b1 b2 b3 b4 b5 b6 (List.getD p i ae)=bif List.any ((List.getD l i ac).wa.drop j) (ml l p i) then cW 17 else f1 l p (i:Int) b0 b1 b2 b3 b4 b5 b6 (List.getD p i ae):=by
  have hwa:=h.wa
  have hin:=h.ain
  revert hwa hin
  generalize (List.getD l i ac).wa=wa
  intro hwa hin n
  induction n with
  | zero=>intro j h1 h2; omega
  | succ n ih =>
    intro j h1 h2
    show sh2 l p (i:Int) wa (Int.ofNat wa.length) (j:Int) b0 b1 b2 b3 b4 b5 b6 (List.getD p i ae) f1 (f2 n)=_
    unfold sh2
    by_cases hj:j < wa.length
    · have hb := hin _ (List.getElem_mem hj)
      have hb2:=hb
      simp only [inb,Bool.and_eq_true] at hb2
      have q1:=gQ hb2.1; have q2:=np hb2.2
      obtain ⟨a3,a4⟩:=h.wh (Int.toNat wa[j]) (by omega)
      rw [ci (by simp; omega),bD hj,ar,az hj,hb,h.lp,hb,cl j (by omega),ih (j+1) (by omega) hj,bR hj,List.any_cons,dD (by omega) (by omega)]
      show aj (ml l p i wa[j]) _ _=_
      cases ml l p i wa[j]<;>rfl
    · have : j = wa.length := by omega
      subst this
      rw [bZ (by simp),List.drop_length]
      rfl
theorem f0_eq (l:List Work) (p:List Slot) (i:Int) (h:okF l p i=true):f0 l p i=cW (cQ l p i):=by
  obtain ⟨q,rfl,hf⟩:=rW h
  have hn:=hf.n
  have hqp:q < p.length:=by rw [hf.lp]; exact hf.hi
  show sh0 l p (q:Int) (f2 100000)=_
  unfold sh0 cQ en
  rw [bD hf.hi,bD hqp,ar,b7 hf.wc]
  cases ((List.getD p q ae).sw != (q:Int))
  case true=>rfl
  cases List.any (List.getD l q ac).wc (cS (List.getD p q ae).sc)
  · rfl
  by_cases hs:0≤(List.getD p q ae).ss∧(List.getD p q ae).ss≤1000000
  · have e : ∀ b0 b1 b2 b3 b4 b5 b6, f2 100000 l p (q : Int) (List.getD l q ac).wa (Int.ofNat (List.getD l q ac).wa.length) 0 b0 b1 b2 b3 b4 b5 b6 (List.getD p q ae) = bif List.any (List.getD l q ac).wa (ml l p q) then cW 17 else f1 l p (q : Int) b0 b1 b2 b3 b4 b5 b6 (List.getD p q ae) := fun b0 b1 b2 b3 b4 b5 b6 => eV l p q hf hs.1 hs.2 b0 b1 b2 b3 b4 b5 b6 100000 0 (by have := hf.wa; omega) (by omega)
    rw [ez hs.1,ez hs.2,e]
    cases List.any (List.getD l q ac).wa (ml l p q)
    case true=>rfl
    show f4 100000 l p (q:Int) false false (Int.ofNat l.length) ((0:Nat):Int) _ (List.getD l q ac).wh _ (List.getD l q ac).ws _ _ _ (List.getD p q ae)=_
    rw [rX l p q hf hs.1 hs.2 _ _ _ _ _ 100000 0 false false (by omega) (by omega),Nat.sub_zero]
    cases dI (eT l p q) l.length 0<;>cases dI (eU l p q) l.length 0<;>rfl
  · have : (ile 0 (List.getD p q ae).ss && ile (List.getD p q ae).ss 1000000) = false := by
      by_cases h1:0≤(List.getD p q ae).ss
      · rw [kV (show ¬ (List.getD p q ae).ss≤1000000 by omega),Bool.and_false]
      · rw [kV h1,Bool.false_and]
    rw [this]
    rfl
theorem ok:CtxOk Tryz.prog X:=aW tab (spC within.spOk (spC every.spOk (spC hasI.spOk spN))) dpN
theorem okM:MOk Tryz.prog X:=fun g sp h=>by cases h
theorem spec (l:List Work) (p:List Slot) (i:Int) (h:(okF l p i)=true):aq Tryz.prog E 52 [(.lst .work l),(.lst .slot p),(.int .i64 i),(.fn 53 [] [])] (.int .i64 (cQ l p i)) [] :=
  ap ok okM Tryz.call52 Tryz.func52 (by kernel_rfl) (by kernel_rfl) (by kernel_rfl) (by show 4≤138; decide) (by decide) (by rfl) ((run l p i).trans (f0_eq l p i h))
noncomputable def sp:Sp U El:=fun args k=>match args with
  | [.lst .work l,.lst .slot p,.int .i64 i,.fn 53 [] []]=>chk (okF l p i) (k (.int .i64 (cQ l p i)) [])
  | _=>none
theorem spOk:SpOk Tryz.prog E 52 sp where
  det:=fun vs=>by
    unfold sp
    split
    · exact bq _ _ _
    · exact ⟨none,fun _=>rfl⟩
  ok:=fun vs k r h=>by
    unfold sp at h
    split at h
    · obtain ⟨h1, h2⟩ := ab h
      exact ⟨_,_,spec _ _ _ h1,h2⟩
    · cases h
end fault
end Go.Proofs.YthdklallcljhlaaGreatDoor

namespace Go.Proofs.YthdklallcljhlaaGreatDoor
set_option linter.unusedSectionVars false
set_option linter.unusedSimpArgs false
set_option linter.unusedVariables false
set_option maxRecDepth 100000
set_option maxHeartbeats 2000000
end Go.Proofs.YthdklallcljhlaaGreatDoor

namespace Go.Proofs.YthdklallcljhlaaGreatDoor
set_option linter.unusedSectionVars false
set_option linter.unusedSimpArgs false
set_option linter.unusedVariables false
set_option maxRecDepth 100000
noncomputable def kj (l:List Work) (p:List Slot):Nat→Nat→Int×Int
  | 0,_=>(0,-1)
  | n+1,k=>bif cQ l p (k:Int) != 0 then (cQ l p (k:Int),(k:Int)) else kj l p n (k+1)
noncomputable def kW (l:List Work) (crews:Int) (p:List Slot):Int×Int:=bif !(cC l crews) then (1,-1) else bif Int.ofNat p.length != Int.ofNat l.length then (3,-1) else kj l p p.length 0
noncomputable def aL (l:List Work) (crews:Int) (p:List Slot):Int:=(kW l crews p).1
noncomputable def kX (l:List Work) (crews:Int) (p:List Slot):Int:=(kW l crews p).2
theorem sD {n crews:Int} {dup:Bool} {w:Work} (h:wk n crews dup w=true):1≤w.wh∧w.wh≤1000:=by
  simp only [wk,Bool.and_eq_true] at h
  exact ⟨gQ h.2.2.1.1,gQ h.2.2.1.2⟩
theorem mm {n crews:Int}:∀ {l seen:List Work},cm n crews seen l=true→∀ w∈l,1≤w.wh∧w.wh≤1000:=by
  intro l
  induction l with
  | nil=>intro seen _ w hw; cases hw
  | cons x l ih =>
    intro seen h w hw
    simp only [cm,Bool.and_eq_true] at h
    rcases List.mem_cons.1 hw with rfl | hw
    · exact sD h.1
    · exact ih h.2 w hw
theorem o1 {l:List Work} {crews:Int} {p:List Slot} (hv:okV l=true) (h:cC l crews=true) (hp:p.length=l.length) {k:Nat} (hk:k < l.length):okF l p (k:Int)=true:=by
  simp only [cC,Bool.and_eq_true] at h
  obtain ⟨_,_,hg,_⟩:=h
  simp only [okF,Bool.and_eq_true]
  refine ⟨mi hv hg,List.all_eq_true.2 fun w hw => ?_,?_,bD hk⟩
  · obtain ⟨q1, q2⟩ := mm hg w hw
    simp only [Bool.and_eq_true]
    exact ⟨b7 ((gh hv).2 w hw).2,ez (by omega),ez q2⟩
  · rw [hp]; exact Nat.beq_refl _
noncomputable def sE (q:Int×Int):R:=some ((.tup [(.int .i64 q.1),(.int .i64 q.2)]),[])
namespace check
noncomputable def bd:Code:=(Tryz.f17.body).getD .skip
noncomputable def X:Ctx U El:=⟨E,tds,zeros,eqs,aK [(29,valid.sp),(52,fault.sp)],100000,33,aC [],fun _=>none⟩
noncomputable def nmR:Norm U:=⟨[],[6,7],[],[],[],[],[]⟩
noncomputable def RR:ai U El:=fun st=>aN nmR st (aJ [6,7] [])
noncomputable def nm1:Norm U:=⟨[],[],[],[],[],[],[]⟩
noncomputable def nm2:Norm U:=⟨[],[0,2,20,21],[],[],[],[],[]⟩
abbrev Y1:=R
abbrev Y2:=(List Work)→(List Slot)→Int→Int→R
noncomputable def fr0 (l:List Work) (crews:Int) (p:List Slot):St U El:=⟨[(0,(.lst .work l)),(1,(.int .i64 crews)),(2,(.lst .slot p))],[]⟩
noncomputable def fr1:St U El:=⟨[],[]⟩
noncomputable def fr2 (l0:List Work) (p2:List Slot) (bA:Int) (aA:Int):St U El:=⟨[(0,(.lst .work l0)),(2,(.lst .slot p2)),(20,(.int .i64 bA)),(21,(.int .i64 aA))],[]⟩
noncomputable def sh0 (l:List Work) (crews:Int) (p:List Slot) (k2:Y2):R :=
  chk (okV l) (aj (!(cC l crews)) (some ((.tup [(.int .i64 (1:Int)),(.int .i64 (-1:Int))]),[])) (aj ((Int.ofNat (List.length p)) != (Int.ofNat (List.length l))) (some ((.tup [(.int .i64 (3:Int)),(.int .i64 (-1:Int))]),[])) (k2 l p (Int.ofNat (List.length p)) (0:Int))))
noncomputable def sh1:R :=
  some ((.tup [(.int .i64 (0:Int)),(.int .i64 (-1:Int))]),[])
noncomputable def sh2 (l0:List Work) (p2:List Slot) (bA:Int) (aA:Int) (k1:Y1) (k2:Y2):R :=
  aj (ilt aA bA) (chk (okF l0 p2 aA) (aj ((cQ l0 p2 aA) != (0:Int)) (some ((.tup [(.int .i64 (cQ l0 p2 aA)),(.int .i64 aA)]),[])) (k2 l0 p2 bA (IntKind.wrap .i64 (aA+(1:Int)))))) (k1)
noncomputable def it2 (Kb1:ai U El) (n:Nat):ai U El:=cP nm2 (fun st' K'=>al X (cdp [1,1,1,0,1,0,0] bd) .d st' K' (aS 0 (aF nm1 Kb1) (fun _ _=>none)) RR) n
noncomputable def ct1:ai U El:=fun st=>al X (cdp [1,1,1,1] bd) .d st RR (fun _ _=>none) RR
theorem P0 (l crews p):al X (cdp [] bd) (.seq none .d (.seq none .d (.seq none .d (.seq (some nm1) (.seq none .d (.block (.loop nm2 .d))) .d)))) (fr0 l crews p) RR (fun _ _=>none) RR=sh0 l crews p (fun y0 y1 y2 y3=>(hid (it2 (hid ct1) 100000)) (fr2 y0 y1 y2 y3)):=by kernel_rfl
theorem P1:ct1 (fr1)=sh1:=by kernel_rfl
theorem P2 (l0 p2 bA aA) (Kb1 Kb2:ai U El):al X (cdp [1,1,1,0,1,0,0] bd) .d (fr2 l0 p2 bA aA) (aF nm2 Kb2) (aS 0 (aF nm1 Kb1) (fun _ _=>none)) RR=sh2 l0 p2 bA aA (Kb1 (fr1)) (fun y0 y1 y2 y3=>Kb2 (fr2 y0 y1 y2 y3)):=by kernel_rfl
noncomputable def f1:R:=sh1
noncomputable def f2:Nat→Y2
  | 0=>fun _ _ _ _=>none
  | n+1=>fun l0 p2 bA aA=>sh2 l0 p2 bA aA f1 (f2 n)
noncomputable def f0 (l:List Work) (crews:Int) (p:List Slot):R:=sh0 l crews p (f2 100000)
theorem T1:(hid ct1) (fr1)=f1:=by
  refine (congrFun (au _) _).trans <| (P1).trans ?_
  show _=sh1
  rfl
theorem T2:∀ (n:Nat),∀ l0 p2 bA aA,it2 (hid ct1) n (fr2 l0 p2 bA aA)=f2 n l0 p2 bA aA:=by
  intro n
  induction n with
  | zero=>intros; rfl
  | succ n ih =>
    intro l0 p2 bA aA
    refine (P2 l0 p2 bA aA (hid ct1) (it2 (hid ct1) n)).trans ?_
    show _=sh2 l0 p2 bA aA f1 (f2 n)
    simp only [T1,ih]
theorem H2 (l0 p2 bA aA):hid (it2 (hid ct1) 100000) (fr2 l0 p2 bA aA)=f2 100000 l0 p2 bA aA:=(congrFun (au _) _).trans (T2 100000 l0 p2 bA aA)
theorem T0 (l crews p):al X bd (.seq none .d (.seq none .d (.seq none .d (.seq (some nm1) (.seq none .d (.block (.loop nm2 .d))) .d)))) (fr0 l crews p) RR (fun _ _=>none) RR=f0 l crews p:=by
  refine (P0 l crews p).trans ?_
  show _=sh0 l crews p (f2 100000)
  simp only [H2]
theorem run (l crews p):aY X bd (.seq none .d (.seq none .d (.seq none .d (.seq (some nm1) (.seq none .d (.block (.loop nm2 .d))) .d)))) nmR [6,7] [] [(.lst .work l),(.int .i64 crews),(.lst .slot p)]=f0 l crews p:=T0 l crews p
theorem loop (l:List Work) (p:List Slot) (hp:p.length≤200) (hok:∀ k,k < p.length→okF l p (k:Int)=true):∀ (n k:Nat),p.length < n+k→k≤p.length→f2 n l p (Int.ofNat p.length) (k:Int)=sE (kj l p (p.length - k) k):=by
  intro n
  induction n with
  | zero=>intro k h1 h2; omega
  | succ n ih =>
    intro k h1 h2
    show sh2 l p (Int.ofNat p.length) (k:Int) f1 (f2 n)=_
    unfold sh2
    by_cases hk:k < p.length
    · rw [ci (by simp; omega), hok k hk, cl k (by omega), ih (k + 1) (by omega) hk, show p.length - k = (p.length - (k + 1)) + 1 by omega]
      simp only [kj,cK,b8]
      cases (cQ l p (k:Int) != 0)<;>rfl
    · have : k = p.length := by omega
      subst this
      rw [bZ (by simp),Nat.sub_self]
      rfl
theorem f0_eq (l:List Work) (crews:Int) (p:List Slot) (h:okV l=true):f0 l crews p=sE (aL l crews p,kX l crews p):=by
  show sh0 l crews p (f2 100000)=_
  unfold sh0 aL kX kW
  rw [h]
  cases hv:cC l crews
  case false=>rfl
  cases hne:(Int.ofNat p.length != Int.ofNat l.length)
  case true=>rfl
  have hp:p.length=l.length:=Int.ofNat.inj (by simpa only [bne_eq_false_iff_eq] using hne)
  have hl:=(gh h).1
  exact loop l p (by omega) (fun k hk=>o1 h hv hp (by omega)) 100000 0 (by omega) (by omega)
theorem ok:CtxOk Tryz.prog X:=aW tab (spC valid.spOk (spC fault.spOk spN)) dpN
theorem okM:MOk Tryz.prog X:=fun g sp h=>by cases h
theorem spec (l:List Work) (crews:Int) (p:List Slot) (h:(okV l)=true):aq Tryz.prog E 17 [(.lst .work l),(.int .i64 crews),(.lst .slot p)] (.tup [(.int .i64 (aL l crews p)),(.int .i64 (kX l crews p))]) [] :=
  ap ok okM Tryz.call17 Tryz.func17 (by kernel_rfl) (by kernel_rfl) (by kernel_rfl) (by show 3≤33; decide) (by decide) (by rfl) ((run l crews p).trans (f0_eq l crews p h))
noncomputable def sp:Sp U El:=fun args k=>match args with
  | [.lst .work l,.int .i64 crews,.lst .slot p]=>chk (okV l) (k (.tup [(.int .i64 (aL l crews p)),(.int .i64 (kX l crews p))]) [])
  | _=>none
theorem spOk:SpOk Tryz.prog E 17 sp where
  det:=fun vs=>by
    unfold sp
    split
    · exact bq _ _ _
    · exact ⟨none,fun _=>rfl⟩
  ok:=fun vs k r h=>by
    unfold sp at h
    split at h
    · obtain ⟨h1, h2⟩ := ab h
      exact ⟨_,_,spec _ _ _ h1,h2⟩
    · cases h
end check
theorem o3 {l:List Work} (h:dH l=false):okV l=true:=by
  simp only [dH,Bool.or_eq_false_iff] at h
  obtain ⟨_,h2,h3⟩:=h
  have hl:=jX h2
  simp only [okV,Bool.and_eq_true]
  refine ⟨b7 (by simp at hl; omega),List.all_eq_true.2 fun w hw => ?_⟩
  have hf:eh w=false:=by
    cases hq:eh w with
    | false=>rfl
    | true=>rw [List.any_eq_true.2 ⟨w,hw,hq⟩] at h3; cases h3
  simp only [eh,Bool.or_eq_false_iff] at hf
  have q1:=jX hf.1
  have q2:=jX hf.2.1
  simp at q1 q2
  simp only [Bool.and_eq_true]
  exact ⟨b7 (by omega),b7 (by omega)⟩
end Go.Proofs.YthdklallcljhlaaGreatDoor
