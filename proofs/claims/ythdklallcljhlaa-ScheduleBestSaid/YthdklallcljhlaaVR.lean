/- Drafts: where a work starts, placing, the best crew. -/
import Derived.Test.YthdklallcljhlaaVP
namespace Go.Proofs.Ythdklallcljhlaa
set_option linter.unusedSectionVars false
set_option linter.unusedSimpArgs false
set_option linter.unusedVariables false
set_option maxRecDepth 100000
noncomputable def okS (l:List Work) (sl:List Slot) (dn:List Bool) (i:Int):Bool:=okD l sl dn i&&(List.all sl (fun s=>inb s.sw l.length)&&rdyB l dn i)
structure SS (l:List Work) (sl:List Slot) (dn:List Bool) (q:Nat):Prop where
  ff:FF l sl q
  okf:okF l sl (q:Int)=true
  dl:dn.length=l.length
  sw:∀ s∈sl,inb s.sw l.length=true
  dq:List.getD dn q d_bool=false
  wd:∀ a∈(List.getD l q d_work).wa,∃ u:Nat,a=(u:Int)∧u < l.length∧List.getD dn u d_bool=true∧u≠q
theorem rdy_of {l:List Work} {dn:List Bool} {q:Nat} (h:rdyB l dn (q:Int)=true):List.getD dn q d_bool=false∧∀ a∈(List.getD l q d_work).wa,List.getD dn (Int.toNat a) d_bool=true:=by
  simp only [rdyB,Bool.and_eq_true,Bool.not_eq_true',toNat_nat] at h
  refine ⟨h.1,fun a ha => ?_⟩
  have h2:=List.any_eq_false.1 h.2 a ha
  simpa [undone] using h2
theorem okS_of {l:List Work} {sl:List Slot} {dn:List Bool} {i:Int} (h:okS l sl dn i=true):∃ q:Nat,i=(q:Int)∧SS l sl dn q:=by
  simp only [okS,okD,Bool.and_eq_true] at h
  obtain ⟨⟨h1,h2⟩,h3,h4⟩:=h
  obtain ⟨q,rfl,hf⟩:=okF_of h1
  obtain ⟨g1,g2⟩:=rdy_of h4
  refine ⟨q,rfl,hf,h1,Nat.eq_of_beq_eq_true h2,List.all_eq_true.1 h3,g1,fun a ha => ?_⟩
  have hb:=hf.ain a ha
  simp only [inb,Bool.and_eq_true] at hb
  obtain ⟨u,rfl⟩:=Int.eq_ofNat_of_zero_le (ileI hb.1)
  have hu:=iltI hb.2
  have hd:=g2 _ ha
  rw [toNat_nat] at hd
  exact ⟨u,rfl,by simp at hu; omega,hd,fun e=>by rw [e,g1] at hd; cases hd⟩
theorem getD_setS (sl:List Slot) (i j:Nat) (v:Slot) (hi:i < sl.length):List.getD (sl.set i v) j d_slot=if i=j then v else List.getD sl j d_slot:=by
  rw [List.getD_eq_getElem?_getD,List.getElem?_set]
  by_cases e:i=j
  · subst e
    rw [if_pos rfl,if_pos hi,if_pos rfl]
    rfl
  · rw [if_neg e,if_neg e,List.getD_eq_getElem?_getD]
theorem okF_set {l:List Work} {sl:List Slot} {q:Nat} {v:Slot} (h:okF l sl (q:Int)=true):okF l (sl.set q v) (q:Int)=true:=by
  unfold okF at h ⊢
  rw [List.length_set]
  exact h
theorem rdyB_T {l:List Work} {sl:List Slot} {dn:List Bool} {q:Nat} (h:SS l sl dn q):rdyB l dn (q:Int)=true:=by
  simp only [rdyB,Bool.and_eq_true,Bool.not_eq_true',toNat_nat]
  refine ⟨h.dq,List.any_eq_false.2 fun a ha => ?_⟩
  obtain ⟨u,rfl,_,hu,_⟩:=h.wd a ha
  have:undone dn (u:Int)=false:=by unfold undone; rw [toNat_nat,hu]; rfl
  rw [this]
  simp
theorem okS_T {l:List Work} {sl:List Slot} {dn:List Bool} {q:Nat} (h:SS l sl dn q):okS l sl dn (q:Int)=true:=by
  simp only [okS,okD,Bool.and_eq_true]
  exact ⟨⟨h.okf,by rw [h.dl]; exact Nat.beq_refl _⟩,List.all_eq_true.2 h.sw,rdyB_T h⟩
theorem SS.set {l:List Work} {sl:List Slot} {dn:List Bool} {q:Nat} (h:SS l sl dn q) (c z:Int):SS l (sl.set q ⟨(q:Int),c,z⟩) dn q:=by
  have hf:=okF_set (v:=⟨(q:Int),c,z⟩) h.okf
  obtain ⟨q',e,hff⟩:=okF_of hf
  obtain rfl:q=q':=Int.ofNat.inj e
  refine ⟨hff,hf,h.dl,fun s hs => ?_,h.dq,h.wd⟩
  rcases List.mem_or_eq_of_mem_set hs with h1 | rfl
  · exact h.sw s h1
  · exact inbT h.ff.hi
noncomputable def firstD (l:List Work) (sl:List Slot) (q:Nat):Int:=List.foldl (fun m a=>mx m (endZ l (List.getD sl (Int.toNat a) d_slot))) 0 (List.getD l q d_work).wa
noncomputable def hrsG (l:List Work) (sl:List Slot) (dn:List Bool) (f:Int):Nat→Nat→List Int→List Int
  | 0,_,acc=>acc
  | n+1,k,acc=>hrsG l sl dn f n (k+1) (bif List.getD dn k d_bool&&ilt f (endZ l (List.getD sl k d_slot)) then acc++[endZ l (List.getD sl k d_slot)] else acc)
noncomputable def tryD (l:List Work) (sl:List Slot) (dn:List Bool) (q:Nat) (c:Int):List Int→Int→Int
  | [],d=>d
  | h :: t,d=>bif faultE l (sl.set q ⟨(q:Int),c,h⟩) dn q == (0:Int) then h else tryD l sl dn q c t h
noncomputable def hoursD (l:List Work) (sl:List Slot) (dn:List Bool) (q:Nat):List Int:=sortI (hrsG l sl dn (firstD l sl q) l.length 0 [firstD l sl q])
noncomputable def startN (l:List Work) (sl:List Slot) (dn:List Bool) (q:Nat) (c:Int):Int:=tryD l sl dn q c (hoursD l sl dn q) 0
noncomputable def startZ (l:List Work) (sl:List Slot) (dn:List Bool) (i c:Int):Int:=startN l sl dn (Int.toNat i) c
theorem hrs_len (l:List Work) (sl:List Slot) (dn:List Bool) (f:Int):∀ (n k:Nat) (acc:List Int),acc.length≤(hrsG l sl dn f n k acc).length∧(hrsG l sl dn f n k acc).length≤acc.length+n:=by
  intro n
  induction n with
  | zero=>intro k acc; exact ⟨Nat.le_refl _,Nat.le_refl _⟩
  | succ n ih =>
    intro k acc
    simp only [hrsG]
    obtain ⟨h1,h2⟩:=ih (k+1) (bif List.getD dn k d_bool&&ilt f (endZ l (List.getD sl k d_slot)) then acc++[endZ l (List.getD sl k d_slot)] else acc)
    revert h1 h2
    cases (List.getD dn k d_bool&&ilt f (endZ l (List.getD sl k d_slot)))
    · intro h1 h2; rw [cond_false] at h1 h2 ⊢; omega
    · intro h1 h2; rw [cond_true] at h1 h2 ⊢; rw [List.length_append,List.length_singleton] at h1 h2; omega
theorem hours_len {l:List Work} (sl:List Slot) (dn:List Bool) (q:Nat):0 < (hoursD l sl dn q).length∧(hoursD l sl dn q).length≤1+l.length:=by
  obtain ⟨h1,h2⟩:=hrs_len l sl dn (firstD l sl q) l.length 0 [firstD l sl q]
  have e:(hoursD l sl dn q).length=(hrsG l sl dn (firstD l sl q) l.length 0 [firstD l sl q]).length:=List.length_mergeSort _
  rw [e]
  rw [List.length_singleton] at h1 h2
  omega
theorem start_set {l : List Work} {sl : List Slot} {dn : List Bool} {q : Nat} (h : SS l sl dn q) (v : Slot) (c : Int) : startN l (sl.set q v) dn q c = startN l sl dn q c := by
  have hq:q < sl.length:=by rw [h.ff.lp]; exact h.ff.hi
  have e1:firstD l (sl.set q v) q=firstD l sl q:=by
    unfold firstD
    refine foldl_same _ _ _ _ fun b a ha => ?_
    obtain ⟨u,rfl,_,_,hu⟩:=h.wd a ha
    rw [toNat_nat,getD_setS _ _ _ _ hq,if_neg (Ne.symm hu)]
  have e2:∀ (f:Int) (n k:Nat) (acc:List Int),hrsG l (sl.set q v) dn f n k acc=hrsG l sl dn f n k acc:=by
    intro f n
    induction n with
    | zero=>intro k acc; rfl
    | succ n ih =>
      intro k acc
      simp only [hrsG]
      rw [ih]
      congr 1
      by_cases e:q=k
      · subst e
        rw [h.dq]
        rfl
      · rw [getD_setS _ _ _ _ hq,if_neg e]
  have e3:∀ (xs:List Int) (d:Int),tryD l (sl.set q v) dn q c xs d=tryD l sl dn q c xs d:=by
    intro xs
    induction xs with
    | nil=>intro d; rfl
    | cons x xs ih =>
      intro d
      simp only [tryD]
      rw [List.set_set,ih]
  unfold startN hoursD
  rw [e1,e2,e3]
noncomputable def outD (v:Int) (l:List Work) (sl:List Slot) (dn:List Bool):R:=some ((.int .i64 v),[(1000000000,(.box 1000000000 [(.lst .work l),(.ful 1000000001),(.ful 1000000002)])),(1000000001,(.rows .slot sl)),(1000000002,(.rows .bool dn))])
namespace start
noncomputable def bd:Code:=(Try.f52.body).getD .skip
noncomputable def X:Ctx U El:=⟨E,tds,zeros,eqs,specOf [(32,faultDr.sp),(47,endc.sp)],100000,115,dspecOf [],mspecOf [(74,sortISp)]⟩
noncomputable def nmR:Norm U:=⟨[],[6],[1000000000,1000000001,1000000002],[],[(1000000000,1,.slot,1000000001),(1000000000,2,.bool,1000000002)],[],[]⟩
noncomputable def RR:Kont U El:=fun st=>normK nmR st (retM [6])
noncomputable def nm1:Norm U:=⟨[],[1,2,3,7],[3,1000000000,1000000001,1000000002],[],[(1000000000,1,.slot,1000000001),(1000000000,2,.bool,1000000002)],[],[(1000000000,0,.work)]⟩
noncomputable def nm2:Norm U:=⟨[],[1,2,3,7,23,24,25],[3,1000000000,1000000001,1000000002],[],[(1000000000,1,.slot,1000000001),(1000000000,2,.bool,1000000002)],[],[(1000000000,0,.work)]⟩
noncomputable def nm3:Norm U:=⟨[(10,.int)],[1,2,3,10],[10,3,1000000000,1000000001,1000000002],[],[(1000000000,1,.slot,1000000001),(1000000000,2,.bool,1000000002)],[],[(1000000000,0,.work)]⟩
noncomputable def nm4:Norm U:=⟨[(10,.int)],[1,2,3,7,10,49,50,51],[10,3,1000000000,1000000001,1000000002],[],[(1000000000,1,.slot,1000000001),(1000000000,2,.bool,1000000002)],[],[(1000000000,0,.work)]⟩
noncomputable def nm5:Norm U:=⟨[(10,.int)],[1,2,3,7,10,49,50,51],[10,3,1000000000,1000000001,1000000002],[],[(1000000000,1,.slot,1000000001),(1000000000,2,.bool,1000000002)],[],[(1000000000,0,.work)]⟩
noncomputable def nm6:Norm U:=⟨[(10,.int)],[10],[10,1000000000,1000000001,1000000002],[],[(1000000000,1,.slot,1000000001),(1000000000,2,.bool,1000000002)],[],[(1000000000,0,.work)]⟩
noncomputable def nm7:Norm U:=⟨[(10,.int)],[1,2,3,10,79,80,81],[10,3,1000000000,1000000001,1000000002],[],[(1000000000,1,.slot,1000000001),(1000000000,2,.bool,1000000002)],[],[(1000000000,0,.work)]⟩
abbrev Y1:=Int→Int→Int→(List Work)→(List Slot)→(List Bool)→R
abbrev Y2:=Int→Int→Int→(List Int)→Int→Int→(List Work)→(List Slot)→(List Bool)→R
abbrev Y3:=Int→Int→(List Int)→(List Work)→(List Slot)→(List Bool)→R
abbrev Y4:=Int→Int→Int→(List Int)→Int→Int→(List Work)→(List Slot)→(List Bool)→R
abbrev Y5:=Int→Int→Int→(List Int)→Int→Int→(List Work)→(List Slot)→(List Bool)→R
abbrev Y6:=(List Int)→(List Work)→(List Slot)→(List Bool)→R
abbrev Y7:=Int→Int→(List Int)→Int→Int→(List Work)→(List Slot)→(List Bool)→R
noncomputable def fr0 (i:Int) (crew:Int) (l:List Work) (sl:List Slot) (dn:List Bool):St U El:=⟨[(0,(.ptr 1000000000 0)),(1,(.int .i64 i)),(2,(.int .i64 crew))],[(1000000000,(.box 1000000000 [(.lst .work l),(.ful 1000000001),(.ful 1000000002)])),(1000000001,(.rows .slot sl)),(1000000002,(.rows .bool dn))]⟩
noncomputable def fr1 (i1:Int) (eA:Int) (fA:Int) (cA:List Work) (bA:List Slot) (dA:List Bool):St U El:=⟨[(1,(.int .i64 i1)),(2,(.int .i64 eA)),(3,(.ptr 3 0)),(7,(.int .i64 fA))],[(3,(.box 0 [(.ptr 1000000000 0)])),(1000000000,(.box 1000000000 [(.lst .work cA),(.ful 1000000001),(.ful 1000000002)])),(1000000001,(.rows .slot bA)),(1000000002,(.rows .bool dA))]⟩
noncomputable def fr2 (i1:Int) (eA:Int) (fA:Int) (pA:List Int) (qA:Int) (oA:Int) (cA:List Work) (bA:List Slot) (dA:List Bool):St U El:=⟨[(1,(.int .i64 i1)),(2,(.int .i64 eA)),(3,(.ptr 3 0)),(7,(.int .i64 fA)),(23,(.lst .int pA)),(24,(.int .i64 qA)),(25,(.int .i64 oA))],[(3,(.box 0 [(.ptr 1000000000 0)])),(1000000000,(.box 1000000000 [(.lst .work cA),(.ful 1000000001),(.ful 1000000002)])),(1000000001,(.rows .slot bA)),(1000000002,(.rows .bool dA))]⟩
noncomputable def fr3 (i1:Int) (eA:Int) (aA:List Int) (cA:List Work) (bA:List Slot) (dA:List Bool):St U El:=⟨[(1,(.int .i64 i1)),(2,(.int .i64 eA)),(3,(.ptr 3 0)),(10,(.ful 10))],[(10,(.rows .int aA)),(3,(.box 0 [(.ptr 1000000000 0)])),(1000000000,(.box 1000000000 [(.lst .work cA),(.ful 1000000001),(.ful 1000000002)])),(1000000001,(.rows .slot bA)),(1000000002,(.rows .bool dA))]⟩
noncomputable def fr4 (i1:Int) (eA:Int) (fA:Int) (aA:List Int) (mA:Int) (lA:Int) (cA:List Work) (bA:List Slot) (dA:List Bool):St U El:=⟨[(1,(.int .i64 i1)),(2,(.int .i64 eA)),(3,(.ptr 3 0)),(7,(.int .i64 fA)),(10,(.ful 10)),(49,(.ful 1000000002)),(50,(.int .i64 mA)),(51,(.int .i64 lA))],[(10,(.rows .int aA)),(3,(.box 0 [(.ptr 1000000000 0)])),(1000000000,(.box 1000000000 [(.lst .work cA),(.ful 1000000001),(.ful 1000000002)])),(1000000001,(.rows .slot bA)),(1000000002,(.rows .bool dA))]⟩
noncomputable def fr5 (i1:Int) (eA:Int) (fA:Int) (aA:List Int) (mA:Int) (lA:Int) (cA:List Work) (bA:List Slot) (dA:List Bool):St U El:=⟨[(1,(.int .i64 i1)),(2,(.int .i64 eA)),(3,(.ptr 3 0)),(7,(.int .i64 fA)),(10,(.ful 10)),(49,(.ful 1000000002)),(50,(.int .i64 mA)),(51,(.int .i64 lA))],[(10,(.rows .int aA)),(3,(.box 0 [(.ptr 1000000000 0)])),(1000000000,(.box 1000000000 [(.lst .work cA),(.ful 1000000001),(.ful 1000000002)])),(1000000001,(.rows .slot bA)),(1000000002,(.rows .bool dA))]⟩
noncomputable def fr6 (aA:List Int) (cA:List Work) (bA:List Slot) (dA:List Bool):St U El:=⟨[(10,(.ful 10))],[(10,(.rows .int aA)),(1000000000,(.box 1000000000 [(.lst .work cA),(.ful 1000000001),(.ful 1000000002)])),(1000000001,(.rows .slot bA)),(1000000002,(.rows .bool dA))]⟩
noncomputable def fr7 (i1:Int) (eA:Int) (aA:List Int) (rA:Int) (nA:Int) (cA:List Work) (bA:List Slot) (dA:List Bool):St U El:=⟨[(1,(.int .i64 i1)),(2,(.int .i64 eA)),(3,(.ptr 3 0)),(10,(.ful 10)),(79,(.ful 10)),(80,(.int .i64 rA)),(81,(.int .i64 nA))],[(10,(.rows .int aA)),(3,(.box 0 [(.ptr 1000000000 0)])),(1000000000,(.box 1000000000 [(.lst .work cA),(.ful 1000000001),(.ful 1000000002)])),(1000000001,(.rows .slot bA)),(1000000002,(.rows .bool dA))]⟩
noncomputable def sh0 (i:Int) (crew:Int) (l:List Work) (sl:List Slot) (dn:List Bool) (k2:Y2):R :=
  chk (inb i (List.length l)) (k2 i crew (0:Int) ((List.getD l (Int.toNat i) d_work).wa) (Int.ofNat (List.length ((List.getD l (Int.toNat i) d_work).wa))) (0:Int) l sl dn)
noncomputable def sh1 (i1:Int) (eA:Int) (fA:Int) (cA:List Work) (bA:List Slot) (dA:List Bool) (k4:Y4):R :=
  k4 i1 eA fA ([fA]:List Int) (Int.ofNat (List.length dA)) (0:Int) cA bA dA
noncomputable def sh2 (i1:Int) (eA:Int) (fA:Int) (pA:List Int) (qA:Int) (oA:Int) (cA:List Work) (bA:List Slot) (dA:List Bool) (k1:Y1) (k2:Y2):R :=
  condB (ilt oA qA) (chk (inb oA (List.length pA)) (chk (inb (List.getD pA (Int.toNat oA) d_int) (List.length bA)) (chk (nlt (Int.toNat (List.getD pA (Int.toNat oA) d_int)) (List.length bA)) (chk (inb (Slot.sw (List.getD bA (Int.toNat (List.getD pA (Int.toNat oA) d_int)) d_slot)) (List.length cA)) (k2 i1 eA (bif ilt fA (endZ cA (List.getD bA (Int.toNat (List.getD pA (Int.toNat oA) d_int)) d_slot)) then (endZ cA (List.getD bA (Int.toNat (List.getD pA (Int.toNat oA) d_int)) d_slot)) else fA) pA qA (IntKind.wrap .i64 (oA+(1:Int))) cA bA dA))))) (k1 i1 eA fA cA bA dA)
noncomputable def sh3 (i1:Int) (eA:Int) (aA:List Int) (cA:List Work) (bA:List Slot) (dA:List Bool) (k7:Y7):R :=
  chk (nle (List.length aA) 100000) (k7 i1 eA (sortI aA) (Int.ofNat (List.length (sortI aA))) (0:Int) cA bA dA)
noncomputable def sh4 (i1:Int) (eA:Int) (fA:Int) (aA:List Int) (mA:Int) (lA:Int) (cA:List Work) (bA:List Slot) (dA:List Bool) (k3:Y3) (k5:Y5):R :=
  condB (ilt lA mA) (chk (inb lA (List.length dA)) (chk (nlt (Int.toNat lA) (List.length dA)) (condB (List.getD dA (Int.toNat lA) d_bool) (chk (inb lA (List.length bA)) (chk (nlt (Int.toNat lA) (List.length bA)) (chk (inb (Slot.sw (List.getD bA (Int.toNat lA) d_slot)) (List.length cA)) (condB (ilt fA (endZ cA (List.getD bA (Int.toNat lA) d_slot))) (chk (nle ((List.length aA+List.length ([(endZ cA (List.getD bA (Int.toNat lA) d_slot))]:List Int)) * 8) 140737488355328&&nle (List.length aA+List.length ([(endZ cA (List.getD bA (Int.toNat lA) d_slot))]:List Int)) 9223372036854775807) (k5 i1 eA fA (aA++([(endZ cA (List.getD bA (Int.toNat lA) d_slot))]:List Int)) mA lA cA bA dA)) (k5 i1 eA fA aA mA lA cA bA dA))))) (k5 i1 eA fA aA mA lA cA bA dA)))) (k3 i1 eA aA cA bA dA)
noncomputable def sh5 (i1:Int) (eA:Int) (fA:Int) (aA:List Int) (mA:Int) (lA:Int) (cA:List Work) (bA:List Slot) (dA:List Bool) (k4:Y4):R :=
  k4 i1 eA fA aA mA (IntKind.wrap .i64 (lA+(1:Int))) cA bA dA
noncomputable def sh6 (aA:List Int) (cA:List Work) (bA:List Slot) (dA:List Bool):R :=
  chk (inb (IntKind.wrap .i64 ((Int.ofNat (List.length aA)) - (1:Int))) (List.length aA)) (chk (nlt (Int.toNat (IntKind.wrap .i64 ((Int.ofNat (List.length aA)) - (1:Int)))) (List.length aA)) (some ((.int .i64 (List.getD aA (Int.toNat (IntKind.wrap .i64 ((Int.ofNat (List.length aA)) - (1:Int)))) d_int)),[(1000000000,(.box 1000000000 [(.lst .work cA),(.ful 1000000001),(.ful 1000000002)])),(1000000001,(.rows .slot bA)),(1000000002,(.rows .bool dA))])))
noncomputable def sh7 (i1:Int) (eA:Int) (aA:List Int) (rA:Int) (nA:Int) (cA:List Work) (bA:List Slot) (dA:List Bool) (k6:Y6) (k7:Y7):R :=
  condB (ilt nA rA) (chk (inb nA (List.length aA)) (chk (nlt (Int.toNat nA) (List.length aA)) (chk (inb i1 (List.length bA)) (chk (nlt (Int.toNat i1) (List.length bA)&&true) (chk (okD cA (List.set bA (Int.toNat i1) (⟨i1,eA,(List.getD aA (Int.toNat nA) d_int)⟩:Slot)) dA i1) (condB ((faultD cA (List.set bA (Int.toNat i1) (⟨i1,eA,(List.getD aA (Int.toNat nA) d_int)⟩:Slot)) dA i1) == (0:Int)) (some ((.int .i64 (List.getD aA (Int.toNat nA) d_int)),[(1000000000,(.box 1000000000 [(.lst .work cA),(.ful 1000000001),(.ful 1000000002)])),(1000000001,(.rows .slot (List.set bA (Int.toNat i1) (⟨i1,eA,(List.getD aA (Int.toNat nA) d_int)⟩:Slot)))),(1000000002,(.rows .bool dA))])) (k7 i1 eA aA rA (IntKind.wrap .i64 (nA+(1:Int))) cA (List.set bA (Int.toNat i1) (⟨i1,eA,(List.getD aA (Int.toNat nA) d_int)⟩:Slot)) dA))))))) (k6 aA cA bA dA)
noncomputable def it2 (Kb1:Kont U El) (n:Nat):Kont U El:=iter nm2 (fun st' K'=>exec X (cdp [1,1,0,1,0,0] bd) .d st' K' (Eblk 0 (cutK nm1 Kb1) (fun _ _=>none)) RR) n
noncomputable def it4 (Kb3:Kont U El) (n:Nat):Kont U El:=iter nm4 (fun st' K'=>exec X (cdp [1,1,1,1,0,1,0,0] bd) (.seq none .d (.seq none .d (.seq (some nm5) .d .d))) st' K' (Eblk 2 (cutK nm3 Kb3) (fun _ _=>none)) RR) n
noncomputable def it7 (Kb6:Kont U El) (n:Nat):Kont U El:=iter nm7 (fun st' K'=>exec X (cdp [1,1,1,1,1,1,0,1,0,0] bd) .d st' K' (Eblk 4 (cutK nm6 Kb6) (fun _ _=>none)) RR) n
noncomputable def ct1:Kont U El:=fun st=>exec X (cdp [1,1,1] bd) (.seq none .d (.seq (some nm3) (.seq none .d (.block (.loop nm4 (.seq none .d (.seq none .d (.seq (some nm5) .d .d)))))) (.seq none .d (.seq (some nm6) (.seq none .d (.block (.loop nm7 .d))) .d)))) st RR (fun _ _=>none) RR
noncomputable def ct3:Kont U El:=fun st=>exec X (cdp [1,1,1,1,1] bd) (.seq none .d (.seq (some nm6) (.seq none .d (.block (.loop nm7 .d))) .d)) st RR (fun _ _=>none) RR
noncomputable def ct5 (Kb3 Kb4:Kont U El):Kont U El:=fun st=>exec X (cdp [1,1,1,1,0,1,0,0,1,1,1] bd) .d st (cutK nm4 Kb4) (Eblk 2 (cutK nm3 Kb3) (fun _ _=>none)) RR
noncomputable def ct6:Kont U El:=fun st=>exec X (cdp [1,1,1,1,1,1,1] bd) .d st RR (fun _ _=>none) RR
theorem P0 (i crew l sl dn):exec X (cdp [] bd) (.seq none .d (.seq none .d (.seq (some nm1) (.seq none .d (.block (.loop nm2 .d))) (.seq none .d (.seq (some nm3) (.seq none .d (.block (.loop nm4 (.seq none .d (.seq none .d (.seq (some nm5) .d .d)))))) (.seq none .d (.seq (some nm6) (.seq none .d (.block (.loop nm7 .d))) .d))))))) (fr0 i crew l sl dn) RR (fun _ _=>none) RR=sh0 i crew l sl dn (fun y0 y1 y2 y3 y4 y5 y6 y7 y8=>(hid (it2 (hid ct1) 100000)) (fr2 y0 y1 y2 y3 y4 y5 y6 y7 y8)):=by kernel_rfl
theorem P1 (i1 eA fA cA bA dA):ct1 (fr1 i1 eA fA cA bA dA)=sh1 i1 eA fA cA bA dA (fun y0 y1 y2 y3 y4 y5 y6 y7 y8=>(hid (it4 (hid ct3) 100000)) (fr4 y0 y1 y2 y3 y4 y5 y6 y7 y8)):=by kernel_rfl
theorem P2 (i1 eA fA pA qA oA cA bA dA) (Kb1 Kb2:Kont U El):exec X (cdp [1,1,0,1,0,0] bd) .d (fr2 i1 eA fA pA qA oA cA bA dA) (cutK nm2 Kb2) (Eblk 0 (cutK nm1 Kb1) (fun _ _=>none)) RR=sh2 i1 eA fA pA qA oA cA bA dA (fun y0 y1 y2 y3 y4 y5=>Kb1 (fr1 y0 y1 y2 y3 y4 y5)) (fun y0 y1 y2 y3 y4 y5 y6 y7 y8=>Kb2 (fr2 y0 y1 y2 y3 y4 y5 y6 y7 y8)):=by kernel_rfl
theorem P3 (i1 eA aA cA bA dA):ct3 (fr3 i1 eA aA cA bA dA)=sh3 i1 eA aA cA bA dA (fun y0 y1 y2 y3 y4 y5 y6 y7=>(hid (it7 (hid ct6) 100000)) (fr7 y0 y1 y2 y3 y4 y5 y6 y7)):=by kernel_rfl
theorem P4 (i1 eA fA aA mA lA cA bA dA) (Kb3 Kb4:Kont U El):exec X (cdp [1,1,1,1,0,1,0,0] bd) (.seq none .d (.seq none .d (.seq (some nm5) .d .d))) (fr4 i1 eA fA aA mA lA cA bA dA) (cutK nm4 Kb4) (Eblk 2 (cutK nm3 Kb3) (fun _ _=>none)) RR=sh4 i1 eA fA aA mA lA cA bA dA (fun y0 y1 y2 y3 y4 y5=>Kb3 (fr3 y0 y1 y2 y3 y4 y5)) (fun y0 y1 y2 y3 y4 y5 y6 y7 y8=>(hid (ct5 Kb3 Kb4)) (fr5 y0 y1 y2 y3 y4 y5 y6 y7 y8)):=by kernel_rfl
theorem P5 (i1 eA fA aA mA lA cA bA dA) (Kb3 Kb4:Kont U El):ct5 Kb3 Kb4 (fr5 i1 eA fA aA mA lA cA bA dA)=sh5 i1 eA fA aA mA lA cA bA dA (fun y0 y1 y2 y3 y4 y5 y6 y7 y8=>Kb4 (fr4 y0 y1 y2 y3 y4 y5 y6 y7 y8)):=by kernel_rfl
theorem P6 (aA cA bA dA):ct6 (fr6 aA cA bA dA)=sh6 aA cA bA dA:=by kernel_rfl
theorem P7 (i1 eA aA rA nA cA bA dA) (Kb6 Kb7:Kont U El):exec X (cdp [1,1,1,1,1,1,0,1,0,0] bd) .d (fr7 i1 eA aA rA nA cA bA dA) (cutK nm7 Kb7) (Eblk 4 (cutK nm6 Kb6) (fun _ _=>none)) RR=sh7 i1 eA aA rA nA cA bA dA (fun y0 y1 y2 y3=>Kb6 (fr6 y0 y1 y2 y3)) (fun y0 y1 y2 y3 y4 y5 y6 y7=>Kb7 (fr7 y0 y1 y2 y3 y4 y5 y6 y7)):=by kernel_rfl
noncomputable def f6 (aA:List Int) (cA:List Work) (bA:List Slot) (dA:List Bool):R:=sh6 aA cA bA dA
noncomputable def f7:Nat→Y7
  | 0=>fun _ _ _ _ _ _ _ _=>none
  | n+1=>fun i1 eA aA rA nA cA bA dA=>sh7 i1 eA aA rA nA cA bA dA f6 (f7 n)
noncomputable def f3 (i1:Int) (eA:Int) (aA:List Int) (cA:List Work) (bA:List Slot) (dA:List Bool):R:=sh3 i1 eA aA cA bA dA (f7 100000)
noncomputable def f5 (k4:Y4) (i1:Int) (eA:Int) (fA:Int) (aA:List Int) (mA:Int) (lA:Int) (cA:List Work) (bA:List Slot) (dA:List Bool):R:=sh5 i1 eA fA aA mA lA cA bA dA k4
noncomputable def f4:Nat→Y4
  | 0=>fun _ _ _ _ _ _ _ _ _=>none
  | n+1=>fun i1 eA fA aA mA lA cA bA dA=>sh4 i1 eA fA aA mA lA cA bA dA f3 (f5 (f4 n))
noncomputable def f1 (i1:Int) (eA:Int) (fA:Int) (cA:List Work) (bA:List Slot) (dA:List Bool):R:=sh1 i1 eA fA cA bA dA (f4 100000)
noncomputable def f2:Nat→Y2
  | 0=>fun _ _ _ _ _ _ _ _ _=>none
  | n+1=>fun i1 eA fA pA qA oA cA bA dA=>sh2 i1 eA fA pA qA oA cA bA dA f1 (f2 n)
noncomputable def f0 (i:Int) (crew:Int) (l:List Work) (sl:List Slot) (dn:List Bool):R:=sh0 i crew l sl dn (f2 100000)
theorem T6 (aA cA bA dA):(hid ct6) (fr6 aA cA bA dA)=f6 aA cA bA dA:=by
  refine (congrFun (hid_eq _) _).trans <| (P6 aA cA bA dA).trans ?_
  show _=sh6 aA cA bA dA
  rfl
theorem T7:∀ (n:Nat),∀ i1 eA aA rA nA cA bA dA,it7 (hid ct6) n (fr7 i1 eA aA rA nA cA bA dA)=f7 n i1 eA aA rA nA cA bA dA:=by
  intro n
  induction n with
  | zero=>intros; rfl
  | succ n ih =>
    intro i1 eA aA rA nA cA bA dA
    refine (P7 i1 eA aA rA nA cA bA dA (hid ct6) (it7 (hid ct6) n)).trans ?_
    show _=sh7 i1 eA aA rA nA cA bA dA f6 (f7 n)
    simp only [T6,ih]
theorem H7 (i1 eA aA rA nA cA bA dA):hid (it7 (hid ct6) 100000) (fr7 i1 eA aA rA nA cA bA dA)=f7 100000 i1 eA aA rA nA cA bA dA:=(congrFun (hid_eq _) _).trans (T7 100000 i1 eA aA rA nA cA bA dA)
theorem T3 (i1 eA aA cA bA dA):(hid ct3) (fr3 i1 eA aA cA bA dA)=f3 i1 eA aA cA bA dA:=by
  refine (congrFun (hid_eq _) _).trans <| (P3 i1 eA aA cA bA dA).trans ?_
  show _=sh3 i1 eA aA cA bA dA (f7 100000)
  simp only [H7]
theorem T5 (KL4:Kont U El) (k4:Y4) (h4:∀ i1 eA fA aA mA lA cA bA dA,KL4 (fr4 i1 eA fA aA mA lA cA bA dA)=k4 i1 eA fA aA mA lA cA bA dA) (i1 eA fA aA mA lA cA bA dA):(hid (ct5 (hid ct3) KL4)) (fr5 i1 eA fA aA mA lA cA bA dA)=f5 k4 i1 eA fA aA mA lA cA bA dA:=by
  refine (congrFun (hid_eq _) _).trans <| (P5 i1 eA fA aA mA lA cA bA dA (hid ct3) KL4).trans ?_
  show _=sh5 i1 eA fA aA mA lA cA bA dA k4
  simp only [h4]
theorem T4:∀ (n:Nat),∀ i1 eA fA aA mA lA cA bA dA,it4 (hid ct3) n (fr4 i1 eA fA aA mA lA cA bA dA)=f4 n i1 eA fA aA mA lA cA bA dA:=by
  intro n
  induction n with
  | zero=>intros; rfl
  | succ n ih =>
    intro i1 eA fA aA mA lA cA bA dA
    refine (P4 i1 eA fA aA mA lA cA bA dA (hid ct3) (it4 (hid ct3) n)).trans ?_
    show _=sh4 i1 eA fA aA mA lA cA bA dA f3 (f5 (f4 n))
    simp only [T3,T5 (it4 (hid ct3) n) (f4 n) ih]
theorem H4 (i1 eA fA aA mA lA cA bA dA):hid (it4 (hid ct3) 100000) (fr4 i1 eA fA aA mA lA cA bA dA)=f4 100000 i1 eA fA aA mA lA cA bA dA:=(congrFun (hid_eq _) _).trans (T4 100000 i1 eA fA aA mA lA cA bA dA)
theorem T1 (i1 eA fA cA bA dA):(hid ct1) (fr1 i1 eA fA cA bA dA)=f1 i1 eA fA cA bA dA:=by
  refine (congrFun (hid_eq _) _).trans <| (P1 i1 eA fA cA bA dA).trans ?_
  show _=sh1 i1 eA fA cA bA dA (f4 100000)
  simp only [H4]
theorem T2:∀ (n:Nat),∀ i1 eA fA pA qA oA cA bA dA,it2 (hid ct1) n (fr2 i1 eA fA pA qA oA cA bA dA)=f2 n i1 eA fA pA qA oA cA bA dA:=by
  intro n
  induction n with
  | zero=>intros; rfl
  | succ n ih =>
    intro i1 eA fA pA qA oA cA bA dA
    refine (P2 i1 eA fA pA qA oA cA bA dA (hid ct1) (it2 (hid ct1) n)).trans ?_
    show _=sh2 i1 eA fA pA qA oA cA bA dA f1 (f2 n)
    simp only [T1,ih]
theorem H2 (i1 eA fA pA qA oA cA bA dA):hid (it2 (hid ct1) 100000) (fr2 i1 eA fA pA qA oA cA bA dA)=f2 100000 i1 eA fA pA qA oA cA bA dA:=(congrFun (hid_eq _) _).trans (T2 100000 i1 eA fA pA qA oA cA bA dA)
theorem T0 (i crew l sl dn):exec X bd (.seq none .d (.seq none .d (.seq (some nm1) (.seq none .d (.block (.loop nm2 .d))) (.seq none .d (.seq (some nm3) (.seq none .d (.block (.loop nm4 (.seq none .d (.seq none .d (.seq (some nm5) .d .d)))))) (.seq none .d (.seq (some nm6) (.seq none .d (.block (.loop nm7 .d))) .d))))))) (fr0 i crew l sl dn) RR (fun _ _=>none) RR=f0 i crew l sl dn:=by
  refine (P0 i crew l sl dn).trans ?_
  show _=sh0 i crew l sl dn (f2 100000)
  simp only [H2]
theorem run (i crew l sl dn):runM X bd (.seq none .d (.seq none .d (.seq (some nm1) (.seq none .d (.block (.loop nm2 .d))) (.seq none .d (.seq (some nm3) (.seq none .d (.block (.loop nm4 (.seq none .d (.seq none .d (.seq (some nm5) .d .d)))))) (.seq none .d (.seq (some nm6) (.seq none .d (.block (.loop nm7 .d))) .d))))))) nmR [6] [(1000000000,(.box 1000000000 [(.lst .work l),(.ful 1000000001),(.ful 1000000002)])),(1000000001,(.rows .slot sl)),(1000000002,(.rows .bool dn))] [(.ptr 1000000000 0),(.int .i64 i),(.int .i64 crew)]=f0 i crew l sl dn:=T0 i crew l sl dn
theorem firstLoop (l:List Work) (sl:List Slot) (dn:List Bool) (q:Nat) (h:SS l sl dn q) (c:Int) (wa:List Int) (hl:wa.length≤90000) (hwa:∀ a∈wa,∃ u:Nat,a=(u:Int)∧u < l.length):∀ (n j:Nat) (m:Int),wa.length < n+j→j≤wa.length →
    f2 n (q:Int) c m wa (Int.ofNat wa.length) (j:Int) l sl dn=f1 (q:Int) c (List.foldl (fun m a=>mx m (endZ l (List.getD sl (Int.toNat a) d_slot))) m (wa.drop j)) l sl dn:=by
  intro n
  induction n with
  | zero=>intro j m h1 h2; omega
  | succ n ih =>
    intro j m h1 h2
    show sh2 (q:Int) c m wa (Int.ofNat wa.length) (j:Int) l sl dn f1 (f2 n)=_
    unfold sh2
    by_cases hj:j < wa.length
    · obtain ⟨u, hu, hul⟩ := hwa _ (List.getElem_mem hj)
      have hus:u < sl.length:=by rw [h.ff.lp]; exact hul
      rw [iltT (by simp; omega),inbT hj,toNat_nat,getD_lt hj,drop_lt hj,List.foldl_cons,hu,inbT hus,toNat_nat,nltT hus,show inb (Slot.sw (List.getD sl u d_slot)) l.length=true by rw [getD_lt hus]; exact h.sw _ (List.getElem_mem hus),wrapS j (by omega),condT,chkT,chkT,chkT,chkT]
      exact ih (j+1) _ (by omega) hj
    · have : j = wa.length := by omega
      subst this
      rw [iltF (by simp),List.drop_length,condF]
      rfl
theorem hoursLoop (l : List Work) (sl : List Slot) (dn : List Bool) (q : Nat) (h : SS l sl dn q) (c f : Int) : ∀ (n k : Nat) (acc : List Int), dn.length < n + k → k ≤ dn.length → acc.length ≤ k + 1 →
    f4 n (q:Int) c f acc (Int.ofNat dn.length) (k:Int) l sl dn=f3 (q:Int) c (hrsG l sl dn f (l.length - k) k acc) l sl dn:=by
  have hdl:=h.dl
  have hn:=h.ff.n
  intro n
  induction n with
  | zero=>intro k acc h1 h2; omega
  | succ n ih =>
    intro k acc h1 h2 h3
    show sh4 (q:Int) c f acc (Int.ofNat dn.length) (k:Int) l sl dn f3 (f5 (f4 n))=_
    unfold sh4
    by_cases hk:k < dn.length
    · have hks : k < sl.length := by rw [h.ff.lp]; omega
      have e5:∀ acc:List Int,f5 (f4 n) (q:Int) c f acc (Int.ofNat dn.length) (k:Int) l sl dn=f4 n (q:Int) c f acc (Int.ofNat dn.length) ((k+1:Nat):Int) l sl dn:=fun acc=>by
        show f4 n (q:Int) c f acc (Int.ofNat dn.length) (IntKind.wrap .i64 ((k:Int)+1)) l sl dn=_
        rw [wrapS k (by omega)]
      have e1:nle ((acc.length+[endZ l (List.getD sl k d_slot)].length) * 8) 140737488355328=true:=nleT (by rw [List.length_singleton]; omega)
      have e2:nle (acc.length+[endZ l (List.getD sl k d_slot)].length) 9223372036854775807=true:=nleT (by rw [List.length_singleton]; omega)
      rw [iltT (by simp; omega),inbT hk,toNat_nat,nltT hk,inbT hks,nltT hks,show inb (Slot.sw (List.getD sl k d_slot)) l.length=true by rw [getD_lt hks]; exact h.sw _ (List.getElem_mem hks),e1,e2,e5,e5,show l.length - k=(l.length - (k+1))+1 by omega]
      simp only [hrsG]
      cases hd:List.getD dn k d_bool with
      | false=>exact ih (k+1) acc (by omega) hk (by omega)
      | true =>
        rw [Bool.true_and]
        cases hf:ilt f (endZ l (List.getD sl k d_slot)) with
        | false=>exact ih (k+1) acc (by omega) hk (by omega)
        | true=>exact ih (k+1) (acc++[endZ l (List.getD sl k d_slot)]) (by omega) hk (by rw [List.length_append,List.length_singleton]; omega)
    · have : k = dn.length := by omega
      subst this
      rw [iltF (by simp),condF,show l.length - dn.length=0 by omega]
      rfl
theorem tryLoop (l : List Work) (sl : List Slot) (dn : List Bool) (q : Nat) (h : SS l sl dn q) (c : Int) (H : List Int) (hH : 0 < H.length) (hH9 : H.length ≤ 100000) : ∀ (n j : Nat) (d : Int) (cur : List Slot), H.length < n + j → j ≤ H.length → (0 < j → cur = sl.set q ⟨(q : Int), c, d⟩ ∧ List.getD H (j - 1) d_int = d) → (j = 0 → cur = sl) →
    f7 n (q:Int) c H (Int.ofNat H.length) (j:Int) l cur dn=outD (tryD l sl dn q c (H.drop j) d) l (sl.set q ⟨(q:Int),c,tryD l sl dn q c (H.drop j) d⟩) dn:=by
  intro n
  induction n with
  | zero=>intro j d cur h1 h2; omega
  | succ n ih =>
    intro j d cur h1 h2 h3 h4
    show sh7 (q:Int) c H (Int.ofNat H.length) (j:Int) l cur dn f6 (f7 n)=_
    unfold sh7
    have hset:∀ x:Slot,List.set cur q x=List.set sl q x:=fun x=>by
      by_cases hj:0 < j
      · rw [(h3 hj).1,List.set_set]
      · rw [h4 (by omega)]
    have hcl:cur.length=sl.length:=by
      by_cases hj:0 < j
      · rw [(h3 hj).1,List.length_set]
      · rw [h4 (by omega)]
    have hqc:q < cur.length:=by rw [hcl,h.ff.lp]; exact h.ff.hi
    by_cases hj:j < H.length
    · have hS := h.set c H[j]
      have hok:okD l (sl.set q ⟨(q:Int),c,H[j]⟩) dn (q:Int)=true:=by
        simp only [okD,Bool.and_eq_true]
        exact ⟨hS.okf,by rw [h.dl]; exact Nat.beq_refl _⟩
      have hfd:faultD l (sl.set q ⟨(q:Int),c,H[j]⟩) dn (q:Int)=faultE l (sl.set q ⟨(q:Int),c,H[j]⟩) dn q:=rfl
      rw [iltT (by simp; omega),inbT hj,toNat_nat,toNat_nat,nltT hj,inbT hqc,nltT hqc,getD_lt hj,hset,hok,hfd,wrapS j (by omega),drop_lt hj]
      simp only [tryD]
      cases hb:(faultE l (sl.set q ⟨(q:Int),c,H[j]⟩) dn q == (0:Int)) with
      | true =>
        show outD H[j] l (List.set cur q ⟨(q:Int),c,H[j]⟩) dn=outD H[j] l (List.set sl q ⟨(q:Int),c,H[j]⟩) dn
        rw [hset]
      | false =>
        exact ih (j+1) H[j] _ (by omega) hj (fun _=>⟨rfl,by rw [Nat.add_sub_cancel,getD_lt hj]⟩) (fun h=>by omega)
    · have e : j = H.length := by omega
      subst e
      obtain ⟨g1,g2⟩:=h3 hH
      rw [iltF (by simp),List.drop_length,condF]
      show sh6 H l cur dn=_
      unfold sh6
      have hw:IntKind.wrap .i64 (Int.ofNat H.length - (1:Int))=((H.length - 1:Nat):Int):=by
        rw [wrapI (by simp; omega) (by simp; omega)]
        simp
        omega
      rw [hw,inbT (show H.length - 1 < H.length by omega),toNat_nat,nltT (show H.length - 1 < H.length by omega),g2,g1]
      rfl
theorem f0_eq (i c:Int) (l:List Work) (sl:List Slot) (dn:List Bool) (h:okS l sl dn i=true):f0 i c l sl dn=outD (startZ l sl dn i c) l (List.set sl (Int.toNat i) ⟨i,c,startZ l sl dn i c⟩) dn:=by
  obtain ⟨q,rfl,hS⟩:=okS_of h
  have hn:=hS.ff.n
  show sh0 (q:Int) c l sl dn (f2 100000)=_
  unfold sh0
  rw [inbT hS.ff.hi,toNat_nat,chkT]
  have hwl:=hS.ff.wa
  refine (firstLoop l sl dn q hS c (List.getD l q d_work).wa hwl (fun a ha=>by obtain ⟨u,h1,h2,_⟩:=hS.wd a ha; exact ⟨u,h1,h2⟩) 100000 0 0 (by omega) (by omega)).trans ?_
  rw [List.drop_zero]
  show f4 100000 (q:Int) c (firstD l sl q) [firstD l sl q] (Int.ofNat dn.length) ((0:Nat):Int) l sl dn=_
  rw [hoursLoop l sl dn q hS c _ 100000 0 _ (by have:=hS.dl; omega) (by omega) (by simp),Nat.sub_zero]
  show sh3 (q:Int) c (hrsG l sl dn (firstD l sl q) l.length 0 [firstD l sl q]) l sl dn (f7 100000)=_
  unfold sh3
  obtain ⟨k1,k2⟩:=hrs_len l sl dn (firstD l sl q) l.length 0 [firstD l sl q]
  rw [List.length_singleton] at k1 k2
  rw [nleT (by omega)]
  obtain ⟨m1,m2⟩:=hours_len sl dn q (l:=l)
  exact tryLoop l sl dn q hS c (hoursD l sl dn q) m1 (by omega) 100000 0 0 sl (by omega) (by omega) (fun h=>by omega) (fun _=>rfl)
theorem ok:CtxOk Try.prog X:=ctxOk tab (spC faultDr.spOk (spC endc.spOk spN)) dpN
theorem okM:MOk Try.prog X:=mspecOf_ok _ (mpC (sortIOk rfl ok) mpN)
theorem spec (i:Int) (crew:Int) (l:List Work) (sl:List Slot) (dn:List Bool) (h:(okS l sl dn i)=true):MCall Try.prog E 52 [(.ptr 1000000000 0),(.int .i64 i),(.int .i64 crew)] [(1000000000,(.box 1000000000 [(.lst .work l),(.ful 1000000001),(.ful 1000000002)])),(1000000001,(.rows .slot sl)),(1000000002,(.rows .bool dn))] (.int .i64 (startZ l sl dn i crew)) [(1000000000,(.box 1000000000 [(.lst .work l),(.ful 1000000001),(.ful 1000000002)])),(1000000001,(.rows .slot (List.set sl (Int.toNat i) (⟨i,crew,startZ l sl dn i crew⟩:Slot)))),(1000000002,(.rows .bool dn))] :=
  runM_sound ok okM Try.func52 (by kernel_rfl) (by kernel_rfl) (by kernel_rfl) (by show 3≤115; decide) ((run i crew l sl dn).trans (f0_eq i crew l sl dn h))
noncomputable def sp:MSp U El:=fun args hs k=>match args,hs with
  | [.ptr q0 0,.int .i64 i,.int .i64 crew],[(q1,.box q2 [.lst .work l,.ful q3,.ful q4]),(q5,.rows .slot sl),(q6,.rows .bool dn)]=>chk (Nat.beq q0 1000000000&&(Nat.beq q1 1000000000&&(Nat.beq q2 1000000000&&(Nat.beq q3 1000000001&&(Nat.beq q4 1000000002&&(Nat.beq q5 1000000001&&(Nat.beq q6 1000000002&&true))))))) (chk (okS l sl dn i) (k (.int .i64 (startZ l sl dn i crew)) [(1000000000,(.box 1000000000 [(.lst .work l),(.ful 1000000001),(.ful 1000000002)])),(1000000001,(.rows .slot (List.set sl (Int.toNat i) (⟨i,crew,startZ l sl dn i crew⟩:Slot)))),(1000000002,(.rows .bool dn))]))
  | _,_=>none
theorem spOk:MSpOk Try.prog E 52 sp:=⟨Try.call52,fun args hs k r h=>by
  unfold sp at h
  split at h
  · obtain ⟨hq, hA⟩ := chk_some h
    clear h
    simp only [Bool.and_eq_true] at hq
    obtain ⟨e0,e1,e2,e3,e4,e5,e6,_⟩:=hq
    cases Nat.eq_of_beq_eq_true e0
    cases Nat.eq_of_beq_eq_true e1
    cases Nat.eq_of_beq_eq_true e2
    cases Nat.eq_of_beq_eq_true e3
    cases Nat.eq_of_beq_eq_true e4
    cases Nat.eq_of_beq_eq_true e5
    cases Nat.eq_of_beq_eq_true e6
    obtain ⟨h1,hB⟩:=chk_some hA
    exact ⟨_,_,spec _ _ _ _ _ h1,hB⟩
  · cases h⟩
theorem spDet:∀ args hs,∃ oo:Option (AV U El×Heap U El),∀ k,sp args hs k=oo.bind fun p=>k p.1 p.2:=fun args hs=>by
  unfold sp
  split
  · exact det_chkM (det_chkM ⟨some (_,_),fun _=>rfl⟩)
  · exact ⟨none,fun _=>rfl⟩
end start
noncomputable def outT (l:List Work) (sl:List Slot) (dn:List Bool):R:=some ((.tup []),[(1000000000,(.box 1000000000 [(.lst .work l),(.ful 1000000001),(.ful 1000000002)])),(1000000001,(.rows .slot sl)),(1000000002,(.rows .bool dn))])
namespace place
noncomputable def bd:Code:=(Try.f45.body).getD .skip
noncomputable def X:Ctx U El:=⟨E,tds,zeros,eqs,specOf [],100000,27,dspecOf [],mspecOf [(52,(mcSp start.sp))]⟩
noncomputable def nmR:Norm U:=⟨[],[],[1000000000,1000000001,1000000002],[],[(1000000000,1,.slot,1000000001),(1000000000,2,.bool,1000000002)],[],[]⟩
noncomputable def RR:Kont U El:=fun st=>normK nmR st (retM [])
noncomputable def fr0 (i:Int) (crew:Int) (l:List Work) (sl:List Slot) (dn:List Bool):St U El:=⟨[(0,(.ptr 1000000000 0)),(1,(.int .i64 i)),(2,(.int .i64 crew))],[(1000000000,(.box 1000000000 [(.lst .work l),(.ful 1000000001),(.ful 1000000002)])),(1000000001,(.rows .slot sl)),(1000000002,(.rows .bool dn))]⟩
noncomputable def sh0 (i:Int) (crew:Int) (l:List Work) (sl:List Slot) (dn:List Bool):R :=
  chk (okS l sl dn i) (chk (inb i (List.length (List.set sl (Int.toNat i) (⟨i,crew,startZ l sl dn i crew⟩:Slot)))) (chk (nlt (Int.toNat i) (List.length (List.set sl (Int.toNat i) (⟨i,crew,startZ l sl dn i crew⟩:Slot)))&&true) (chk (inb i (List.length dn)) (chk (nlt (Int.toNat i) (List.length dn)&&true) (some ((.tup []),[(1000000000,(.box 1000000000 [(.lst .work l),(.ful 1000000001),(.ful 1000000002)])),(1000000001,(.rows .slot (List.set (List.set sl (Int.toNat i) (⟨i,crew,startZ l sl dn i crew⟩:Slot)) (Int.toNat i) (⟨i,crew,(startZ l sl dn i crew)⟩:Slot)))),(1000000002,(.rows .bool (List.set dn (Int.toNat i) true)))]))))))
theorem P0 (i crew l sl dn):exec X (cdp [] bd) .d (fr0 i crew l sl dn) RR (fun _ _=>none) RR=sh0 i crew l sl dn:=by kernel_rfl
noncomputable def f0 (i:Int) (crew:Int) (l:List Work) (sl:List Slot) (dn:List Bool):R:=sh0 i crew l sl dn
theorem T0 (i crew l sl dn):exec X bd .d (fr0 i crew l sl dn) RR (fun _ _=>none) RR=f0 i crew l sl dn:=by
  refine (P0 i crew l sl dn).trans ?_
  show _=sh0 i crew l sl dn
  rfl
theorem run (i crew l sl dn):runM X bd .d nmR [] [(1000000000,(.box 1000000000 [(.lst .work l),(.ful 1000000001),(.ful 1000000002)])),(1000000001,(.rows .slot sl)),(1000000002,(.rows .bool dn))] [(.ptr 1000000000 0),(.int .i64 i),(.int .i64 crew)]=f0 i crew l sl dn:=T0 i crew l sl dn
theorem f0_eq (i c:Int) (l:List Work) (sl:List Slot) (dn:List Bool) (h:okS l sl dn i=true):f0 i c l sl dn=outT l (List.set sl (Int.toNat i) ⟨i,c,startZ l sl dn i c⟩) (List.set dn (Int.toNat i) true):=by
  obtain ⟨q,rfl,hS⟩:=okS_of h
  have hq:=hS.ff.hi
  show sh0 (q:Int) c l sl dn=_
  unfold sh0
  rw [h,List.length_set,toNat_nat,inbT (show q < sl.length by rw [hS.ff.lp]; exact hq),nltT (show q < sl.length by rw [hS.ff.lp]; exact hq),inbT (show q < dn.length by rw [hS.dl]; exact hq),nltT (show q < dn.length by rw [hS.dl]; exact hq)]
  show outT l (List.set (List.set sl q ⟨(q:Int),c,startZ l sl dn (q:Int) c⟩) q ⟨(q:Int),c,startZ l sl dn (q:Int) c⟩) (List.set dn q true)=_
  rw [List.set_set]
theorem ok:CtxOk Try.prog X:=ctxOk tab spN dpN
theorem okM:MOk Try.prog X:=mspecOf_ok _ (mpC (mcSp_ok ok start.spOk) mpN)
theorem spec (i:Int) (crew:Int) (l:List Work) (sl:List Slot) (dn:List Bool) (h:(okS l sl dn i)=true):MCall Try.prog E 45 [(.ptr 1000000000 0),(.int .i64 i),(.int .i64 crew)] [(1000000000,(.box 1000000000 [(.lst .work l),(.ful 1000000001),(.ful 1000000002)])),(1000000001,(.rows .slot sl)),(1000000002,(.rows .bool dn))] (.tup []) [(1000000000,(.box 1000000000 [(.lst .work l),(.ful 1000000001),(.ful 1000000002)])),(1000000001,(.rows .slot (List.set sl (Int.toNat i) (⟨i,crew,startZ l sl dn i crew⟩:Slot)))),(1000000002,(.rows .bool (List.set dn (Int.toNat i) true)))] :=
  runM_sound ok okM Try.func45 (by kernel_rfl) (by kernel_rfl) (by kernel_rfl) (by show 3≤27; decide) ((run i crew l sl dn).trans (f0_eq i crew l sl dn h))
noncomputable def sp:MSp U El:=fun args hs k=>match args,hs with
  | [.ptr q0 0,.int .i64 i,.int .i64 crew],[(q1,.box q2 [.lst .work l,.ful q3,.ful q4]),(q5,.rows .slot sl),(q6,.rows .bool dn)]=>chk (Nat.beq q0 1000000000&&(Nat.beq q1 1000000000&&(Nat.beq q2 1000000000&&(Nat.beq q3 1000000001&&(Nat.beq q4 1000000002&&(Nat.beq q5 1000000001&&(Nat.beq q6 1000000002&&true))))))) (chk (okS l sl dn i) (k (.tup []) [(1000000000,(.box 1000000000 [(.lst .work l),(.ful 1000000001),(.ful 1000000002)])),(1000000001,(.rows .slot (List.set sl (Int.toNat i) (⟨i,crew,startZ l sl dn i crew⟩:Slot)))),(1000000002,(.rows .bool (List.set dn (Int.toNat i) true)))]))
  | _,_=>none
theorem spOk:MSpOk Try.prog E 45 sp:=⟨Try.call45,fun args hs k r h=>by
  unfold sp at h
  split at h
  · obtain ⟨hq, hA⟩ := chk_some h
    clear h
    simp only [Bool.and_eq_true] at hq
    obtain ⟨e0,e1,e2,e3,e4,e5,e6,_⟩:=hq
    cases Nat.eq_of_beq_eq_true e0
    cases Nat.eq_of_beq_eq_true e1
    cases Nat.eq_of_beq_eq_true e2
    cases Nat.eq_of_beq_eq_true e3
    cases Nat.eq_of_beq_eq_true e4
    cases Nat.eq_of_beq_eq_true e5
    cases Nat.eq_of_beq_eq_true e6
    obtain ⟨h1,hB⟩:=chk_some hA
    exact ⟨_,_,spec _ _ _ _ _ h1,hB⟩
  · cases h⟩
theorem spDet:∀ args hs,∃ oo:Option (AV U El×Heap U El),∀ k,sp args hs k=oo.bind fun p=>k p.1 p.2:=fun args hs=>by
  unfold sp
  split
  · exact det_chkM (det_chkM ⟨some (_,_),fun _=>rfl⟩)
  · exact ⟨none,fun _=>rfl⟩
end place
noncomputable def outG (v nx:Int) (l:List Work) (sl:List Slot) (dn:List Bool):R:=some ((.int .i64 v),[(1000000000,(.box 1000000000 [(.ptr 1000000002 0)])),(1000000001,(.box 1000000001 [(.int .i64 nx)])),(1000000002,(.box 1000000002 [(.lst .work l),(.ful 1000000003),(.ful 1000000004)])),(1000000003,(.rows .slot sl)),(1000000004,(.rows .bool dn))])
namespace gr1
noncomputable def bd:Code:=(Try.f50.body).getD .skip
noncomputable def X:Ctx U El:=⟨E,tds,zeros,eqs,specOf [(51,cmpI.sp)],100000,16,dspecOf [(52,start.sp)],fun _=>none⟩
noncomputable def nmR:Norm U:=⟨[],[6],[1000000000,1000000001,1000000002,1000000003,1000000004],[],[(1000000002,1,.slot,1000000003),(1000000002,2,.bool,1000000004)],[],[]⟩
noncomputable def RR:Kont U El:=fun st=>normK nmR st (retM [6])
noncomputable def fr0 (a:Int) (b:Int) (nx:Int) (l:List Work) (sl:List Slot) (dn:List Bool):St U El:=⟨[(0,(.int .i64 a)),(1,(.int .i64 b)),(2,(.ptr 1000000000 0)),(3,(.ptr 1000000001 0))],[(1000000000,(.box 1000000000 [(.ptr 1000000002 0)])),(1000000001,(.box 1000000001 [(.int .i64 nx)])),(1000000002,(.box 1000000002 [(.lst .work l),(.ful 1000000003),(.ful 1000000004)])),(1000000003,(.rows .slot sl)),(1000000004,(.rows .bool dn))]⟩
noncomputable def sh0 (a:Int) (b:Int) (nx:Int) (l:List Work) (sl:List Slot) (dn:List Bool):R :=
  chk (okS l sl dn nx) (chk (okS l (List.set sl (Int.toNat nx) (⟨nx,a,startZ l sl dn nx a⟩:Slot)) dn nx) (some ((.int .i64 (cmpZ (startZ l sl dn nx a) (startZ l (List.set sl (Int.toNat nx) (⟨nx,a,startZ l sl dn nx a⟩:Slot)) dn nx b))),[(1000000000,(.box 1000000000 [(.ptr 1000000002 0)])),(1000000001,(.box 1000000001 [(.int .i64 nx)])),(1000000002,(.box 1000000002 [(.lst .work l),(.ful 1000000003),(.ful 1000000004)])),(1000000003,(.rows .slot (List.set (List.set sl (Int.toNat nx) (⟨nx,a,startZ l sl dn nx a⟩:Slot)) (Int.toNat nx) (⟨nx,b,startZ l (List.set sl (Int.toNat nx) (⟨nx,a,startZ l sl dn nx a⟩:Slot)) dn nx b⟩:Slot)))),(1000000004,(.rows .bool dn))])))
theorem P0 (a b nx l sl dn):exec X (cdp [] bd) (.seq none .d (.seq none (.region [(3,1000000002),(3,1000000003),(3,1000000004),(7,1000000002),(7,10000),(7,10001)]) .d)) (fr0 a b nx l sl dn) RR (fun _ _=>none) RR=sh0 a b nx l sl dn:=by kernel_rfl
noncomputable def f0 (a:Int) (b:Int) (nx:Int) (l:List Work) (sl:List Slot) (dn:List Bool):R:=sh0 a b nx l sl dn
theorem T0 (a b nx l sl dn):exec X bd (.seq none .d (.seq none (.region [(3,1000000002),(3,1000000003),(3,1000000004),(7,1000000002),(7,10000),(7,10001)]) .d)) (fr0 a b nx l sl dn) RR (fun _ _=>none) RR=f0 a b nx l sl dn:=by
  refine (P0 a b nx l sl dn).trans ?_
  show _=sh0 a b nx l sl dn
  rfl
theorem run (a b nx l sl dn):runM X bd (.seq none .d (.seq none (.region [(3,1000000002),(3,1000000003),(3,1000000004),(7,1000000002),(7,10000),(7,10001)]) .d)) nmR [6] [(1000000000,(.box 1000000000 [(.ptr 1000000002 0)])),(1000000001,(.box 1000000001 [(.int .i64 nx)])),(1000000002,(.box 1000000002 [(.lst .work l),(.ful 1000000003),(.ful 1000000004)])),(1000000003,(.rows .slot sl)),(1000000004,(.rows .bool dn))] [(.int .i64 a),(.int .i64 b),(.ptr 1000000000 0),(.ptr 1000000001 0)]=f0 a b nx l sl dn:=T0 a b nx l sl dn
theorem f0_eq (a b nx:Int) (l:List Work) (sl:List Slot) (dn:List Bool) (h:okS l sl dn nx=true):f0 a b nx l sl dn=outG (cmpZ (startZ l sl dn nx a) (startZ l sl dn nx b)) nx l (List.set sl (Int.toNat nx) ⟨nx,b,startZ l sl dn nx b⟩) dn:=by
  obtain ⟨q,rfl,hS⟩:=okS_of h
  show sh0 a b (q:Int) l sl dn=_
  unfold sh0
  have e:startZ l (List.set sl q ⟨(q:Int),a,startZ l sl dn (q:Int) a⟩) dn (q:Int) b=startZ l sl dn (q:Int) b:=start_set hS _ b
  rw [h,toNat_nat,okS_T (hS.set a _),e]
  show outG (cmpZ (startZ l sl dn (q:Int) a) (startZ l sl dn (q:Int) b)) (q:Int) l (List.set (List.set sl q ⟨(q:Int),a,startZ l sl dn (q:Int) a⟩) q ⟨(q:Int),b,startZ l sl dn (q:Int) b⟩) dn=_
  rw [List.set_set]
theorem ok:CtxOk Try.prog X:=ctxOk tab (spC cmpI.spOk spN) (dpC ⟨start.spOk,start.spDet⟩ dpN)
theorem okM:MOk Try.prog X:=fun g sp h=>by cases h
theorem spec (a:Int) (b:Int) (nx:Int) (l:List Work) (sl:List Slot) (dn:List Bool) (h:(okS l sl dn nx)=true):MCall Try.prog E 50 [(.int .i64 a),(.int .i64 b),(.ptr 1000000000 0),(.ptr 1000000001 0)] [(1000000000,(.box 1000000000 [(.ptr 1000000002 0)])),(1000000001,(.box 1000000001 [(.int .i64 nx)])),(1000000002,(.box 1000000002 [(.lst .work l),(.ful 1000000003),(.ful 1000000004)])),(1000000003,(.rows .slot sl)),(1000000004,(.rows .bool dn))] (.int .i64 (cmpZ (startZ l sl dn nx a) (startZ l sl dn nx b))) [(1000000000,(.box 1000000000 [(.ptr 1000000002 0)])),(1000000001,(.box 1000000001 [(.int .i64 nx)])),(1000000002,(.box 1000000002 [(.lst .work l),(.ful 1000000003),(.ful 1000000004)])),(1000000003,(.rows .slot (List.set sl (Int.toNat nx) (⟨nx,b,startZ l sl dn nx b⟩:Slot)))),(1000000004,(.rows .bool dn))] :=
  runM_sound ok okM Try.func50 (by kernel_rfl) (by kernel_rfl) (by kernel_rfl) (by show 4≤16; decide) ((run a b nx l sl dn).trans (f0_eq a b nx l sl dn h))
noncomputable def sp:MSp U El:=fun args hs k=>match args,hs with
  | [.int .i64 a,.int .i64 b,.ptr q0 0,.ptr q1 0],[(q2,.box q3 [.ptr q4 0]),(q5,.box q6 [.int .i64 nx]),(q7,.box q8 [.lst .work l,.ful q9,.ful q10]),(q11,.rows .slot sl),(q12,.rows .bool dn)]=>chk (Nat.beq q0 1000000000&&(Nat.beq q1 1000000001&&(Nat.beq q2 1000000000&&(Nat.beq q3 1000000000&&(Nat.beq q4 1000000002&&(Nat.beq q5 1000000001&&(Nat.beq q6 1000000001&&(Nat.beq q7 1000000002&&(Nat.beq q8 1000000002&&(Nat.beq q9 1000000003&&(Nat.beq q10 1000000004&&(Nat.beq q11 1000000003&&(Nat.beq q12 1000000004&&true))))))))))))) (chk (okS l sl dn nx) (k (.int .i64 (cmpZ (startZ l sl dn nx a) (startZ l sl dn nx b))) [(1000000000,(.box 1000000000 [(.ptr 1000000002 0)])),(1000000001,(.box 1000000001 [(.int .i64 nx)])),(1000000002,(.box 1000000002 [(.lst .work l),(.ful 1000000003),(.ful 1000000004)])),(1000000003,(.rows .slot (List.set sl (Int.toNat nx) (⟨nx,b,startZ l sl dn nx b⟩:Slot)))),(1000000004,(.rows .bool dn))]))
  | _,_=>none
theorem spOk:MSpOk Try.prog E 50 sp:=⟨Try.call50,fun args hs k r h=>by
  unfold sp at h
  split at h
  · obtain ⟨hq, hA⟩ := chk_some h
    clear h
    simp only [Bool.and_eq_true] at hq
    obtain ⟨e0,e1,e2,e3,e4,e5,e6,e7,e8,e9,e10,e11,e12,_⟩:=hq
    cases Nat.eq_of_beq_eq_true e0
    cases Nat.eq_of_beq_eq_true e1
    cases Nat.eq_of_beq_eq_true e2
    cases Nat.eq_of_beq_eq_true e3
    cases Nat.eq_of_beq_eq_true e4
    cases Nat.eq_of_beq_eq_true e5
    cases Nat.eq_of_beq_eq_true e6
    cases Nat.eq_of_beq_eq_true e7
    cases Nat.eq_of_beq_eq_true e8
    cases Nat.eq_of_beq_eq_true e9
    cases Nat.eq_of_beq_eq_true e10
    cases Nat.eq_of_beq_eq_true e11
    cases Nat.eq_of_beq_eq_true e12
    obtain ⟨h1,hB⟩:=chk_some hA
    exact ⟨_,_,spec _ _ _ _ _ _ h1,hB⟩
  · cases h⟩
theorem spDet:∀ args hs,∃ oo:Option (AV U El×Heap U El),∀ k,sp args hs k=oo.bind fun p=>k p.1 p.2:=fun args hs=>by
  unfold sp
  split
  · exact det_chkM (det_chkM ⟨some (_,_),fun _=>rfl⟩)
  · exact ⟨none,fun _=>rfl⟩
end gr1
noncomputable def minG (l:List Work) (sl:List Slot) (dn:List Bool) (nx:Int):List Int→Int→Int
  | [],m=>m
  | x :: t,m=>bif ilt (cmpZ (startZ l sl dn nx x) (startZ l sl dn nx m)) 0 then minG l sl dn nx t x else minG l sl dn nx t m
noncomputable def minOG (l:List Work) (sl:List Slot) (dn:List Bool) (nx:Int):List Int→Int→List Slot→List Slot
  | [],_,cur=>cur
  | x :: t,m,cur=>bif ilt (cmpZ (startZ l sl dn nx x) (startZ l sl dn nx m)) 0 then minOG l sl dn nx t x (List.set sl (Int.toNat nx) ⟨nx,m,startZ l sl dn nx m⟩) else minOG l sl dn nx t m (List.set sl (Int.toNat nx) ⟨nx,m,startZ l sl dn nx m⟩)
noncomputable def minZ (l:List Work) (sl:List Slot) (dn:List Bool) (nx:Int) (xs:List Int):Int:=minG l sl dn nx (xs.drop 1) (List.getD xs 0 d_int)
noncomputable def minO (l:List Work) (sl:List Slot) (dn:List Bool) (nx:Int) (xs:List Int):List Slot:=minOG l sl dn nx (xs.drop 1) (List.getD xs 0 d_int) sl
def But (sl cur:List Slot) (q:Nat):Prop:=cur=sl∨∃ c z:Int,cur=sl.set q ⟨(q:Int),c,z⟩
theorem but_SS {l:List Work} {sl cur:List Slot} {dn:List Bool} {q:Nat} (h:SS l sl dn q) (hb:But sl cur q):SS l cur dn q∧(∀ c,startZ l cur dn (q:Int) c=startZ l sl dn (q:Int) c)∧∀ x,List.set cur q x=List.set sl q x:=by
  rcases hb with rfl | ⟨c,z,rfl⟩
  · exact ⟨h,fun _=>rfl,fun _=>rfl⟩
  · exact ⟨h.set c z,fun c'=>start_set h _ c',fun x=>List.set_set ..⟩
theorem minO_but (l:List Work) (sl:List Slot) (dn:List Bool) (q:Nat):∀ (xs:List Int) (m:Int) (cur:List Slot),But sl cur q→But sl (minOG l sl dn (q:Int) xs m cur) q:=by
  intro xs
  induction xs with
  | nil=>intro m cur h; exact h
  | cons x xs ih =>
    intro m cur h
    simp only [minOG,toNat_nat]
    cases ilt (cmpZ (startZ l sl dn (q:Int) x) (startZ l sl dn (q:Int) m)) 0
    · exact ih _ _ (.inr ⟨_,_,rfl⟩)
    · exact ih _ _ (.inr ⟨_,_,rfl⟩)
namespace minF
noncomputable def bd:Code:=(Try.f49.body).getD .skip
noncomputable def X:Ctx U El:=⟨E,tds,zeros,eqs,specOf [],100000,33,dspecOf [],mspecOf [(50,(mcSp gr1.sp))]⟩
noncomputable def nmR:Norm U:=⟨[],[4],[1000000000,1000000001,1000000002,1000000003,1000000004],[],[(1000000002,1,.slot,1000000003),(1000000002,2,.bool,1000000004)],[],[]⟩
noncomputable def RR:Kont U El:=fun st=>normK nmR st (retM [4])
noncomputable def nm1:Norm U:=⟨[],[0,1],[1000000000,1000000001,1000000002,1000000003,1000000004],[],[(1000000002,1,.slot,1000000003),(1000000002,2,.bool,1000000004)],[],[(1000000002,0,.work)]⟩
noncomputable def nm2:Norm U:=⟨[],[5],[1000000000,1000000001,1000000002,1000000003,1000000004],[],[(1000000002,1,.slot,1000000003),(1000000002,2,.bool,1000000004)],[],[(1000000002,0,.work)]⟩
noncomputable def nm3:Norm U:=⟨[],[0,1,5,6],[1000000000,1000000001,1000000002,1000000003,1000000004],[],[(1000000002,1,.slot,1000000003),(1000000002,2,.bool,1000000004)],[],[(1000000002,0,.work)]⟩
noncomputable def nm4:Norm U:=⟨[],[0,1,5,6],[1000000000,1000000001,1000000002,1000000003,1000000004],[],[(1000000002,1,.slot,1000000003),(1000000002,2,.bool,1000000004)],[],[(1000000002,0,.work)]⟩
abbrev Y1:=(List Int)→Int→(List Work)→(List Slot)→(List Bool)→R
abbrev Y2:=Int→Int→(List Work)→(List Slot)→(List Bool)→R
abbrev Y3:=(List Int)→Int→Int→Int→(List Work)→(List Slot)→(List Bool)→R
abbrev Y4:=(List Int)→Int→Int→Int→(List Work)→(List Slot)→(List Bool)→R
noncomputable def fr0 (xs:List Int) (nx:Int) (l:List Work) (sl:List Slot) (dn:List Bool):St U El:=⟨[(0,(.lst .int xs)),(1,(.fn 50 [] [(.ptr 1000000000 0),(.ptr 1000000001 0)]))],[(1000000000,(.box 1000000000 [(.ptr 1000000002 0)])),(1000000001,(.box 1000000001 [(.int .i64 nx)])),(1000000002,(.box 1000000002 [(.lst .work l),(.ful 1000000003),(.ful 1000000004)])),(1000000003,(.rows .slot sl)),(1000000004,(.rows .bool dn))]⟩
noncomputable def fr1 (x0:List Int) (gA:Int) (iA:List Work) (jA:List Slot) (kA:List Bool):St U El:=⟨[(0,(.lst .int x0)),(1,(.fn 50 [] [(.ptr 1000000000 0),(.ptr 1000000001 0)]))],[(1000000000,(.box 1000000000 [(.ptr 1000000002 0)])),(1000000001,(.box 1000000001 [(.int .i64 gA)])),(1000000002,(.box 1000000002 [(.lst .work iA),(.ful 1000000003),(.ful 1000000004)])),(1000000003,(.rows .slot jA)),(1000000004,(.rows .bool kA))]⟩
noncomputable def fr2 (m5:Int) (gA:Int) (iA:List Work) (jA:List Slot) (kA:List Bool):St U El:=⟨[(5,(.int .i64 m5))],[(1000000000,(.box 1000000000 [(.ptr 1000000002 0)])),(1000000001,(.box 1000000001 [(.int .i64 gA)])),(1000000002,(.box 1000000002 [(.lst .work iA),(.ful 1000000003),(.ful 1000000004)])),(1000000003,(.rows .slot jA)),(1000000004,(.rows .bool kA))]⟩
noncomputable def fr3 (x0:List Int) (m5:Int) (i6:Int) (gA:Int) (iA:List Work) (jA:List Slot) (kA:List Bool):St U El:=⟨[(0,(.lst .int x0)),(1,(.fn 50 [] [(.ptr 1000000000 0),(.ptr 1000000001 0)])),(5,(.int .i64 m5)),(6,(.int .i64 i6))],[(1000000000,(.box 1000000000 [(.ptr 1000000002 0)])),(1000000001,(.box 1000000001 [(.int .i64 gA)])),(1000000002,(.box 1000000002 [(.lst .work iA),(.ful 1000000003),(.ful 1000000004)])),(1000000003,(.rows .slot jA)),(1000000004,(.rows .bool kA))]⟩
noncomputable def fr4 (x0:List Int) (m5:Int) (i6:Int) (gA:Int) (iA:List Work) (jA:List Slot) (kA:List Bool):St U El:=⟨[(0,(.lst .int x0)),(1,(.fn 50 [] [(.ptr 1000000000 0),(.ptr 1000000001 0)])),(5,(.int .i64 m5)),(6,(.int .i64 i6))],[(1000000000,(.box 1000000000 [(.ptr 1000000002 0)])),(1000000001,(.box 1000000001 [(.int .i64 gA)])),(1000000002,(.box 1000000002 [(.lst .work iA),(.ful 1000000003),(.ful 1000000004)])),(1000000003,(.rows .slot jA)),(1000000004,(.rows .bool kA))]⟩
noncomputable def sh0 (xs:List Int) (nx:Int) (l:List Work) (sl:List Slot) (dn:List Bool) (k1:Y1):R :=
  condB (ilt (Int.ofNat (List.length xs)) (1:Int)) (none) (k1 xs nx l sl dn)
noncomputable def sh1 (x0:List Int) (gA:Int) (iA:List Work) (jA:List Slot) (kA:List Bool) (k3:Y3):R :=
  chk (inb (0:Int) (List.length x0)) (k3 x0 (List.getD x0 0 d_int) (1:Int) gA iA jA kA)
noncomputable def sh2 (m5:Int) (gA:Int) (iA:List Work) (jA:List Slot) (kA:List Bool):R :=
  some ((.int .i64 m5),[(1000000000,(.box 1000000000 [(.ptr 1000000002 0)])),(1000000001,(.box 1000000001 [(.int .i64 gA)])),(1000000002,(.box 1000000002 [(.lst .work iA),(.ful 1000000003),(.ful 1000000004)])),(1000000003,(.rows .slot jA)),(1000000004,(.rows .bool kA))])
noncomputable def sh3 (x0:List Int) (m5:Int) (i6:Int) (gA:Int) (iA:List Work) (jA:List Slot) (kA:List Bool) (k2:Y2) (k4:Y4):R :=
  condB (ilt i6 (Int.ofNat (List.length x0))) (chk (inb i6 (List.length x0)) (chk (okS iA jA kA gA) (condB (ilt (cmpZ (startZ iA jA kA gA (List.getD x0 (Int.toNat i6) d_int)) (startZ iA jA kA gA m5)) (0:Int)) (chk (inb i6 (List.length x0)) (k4 x0 (List.getD x0 (Int.toNat i6) d_int) i6 gA iA (List.set jA (Int.toNat gA) (⟨gA,m5,startZ iA jA kA gA m5⟩:Slot)) kA)) (k4 x0 m5 i6 gA iA (List.set jA (Int.toNat gA) (⟨gA,m5,startZ iA jA kA gA m5⟩:Slot)) kA)))) (k2 m5 gA iA jA kA)
noncomputable def sh4 (x0:List Int) (m5:Int) (i6:Int) (gA:Int) (iA:List Work) (jA:List Slot) (kA:List Bool) (k3:Y3):R :=
  k3 x0 m5 (IntKind.wrap .i64 (i6+(1:Int))) gA iA jA kA
noncomputable def it3 (Kb2:Kont U El) (n:Nat):Kont U El:=iter nm3 (fun st' K'=>exec X (cdp [1,1,1,0,1,0,0] bd) (.seq none .d (.seq (some nm4) .d .d)) st' K' (Eblk 0 (cutK nm2 Kb2) (fun _ _=>none)) RR) n
noncomputable def ct1:Kont U El:=fun st=>exec X (cdp [1,1] bd) (.seq none .d (.seq (some nm2) (.seq none .d (.block (.loop nm3 (.seq none .d (.seq (some nm4) .d .d))))) .d)) st RR (fun _ _=>none) RR
noncomputable def ct2:Kont U El:=fun st=>exec X (cdp [1,1,1,1] bd) .d st RR (fun _ _=>none) RR
noncomputable def ct4 (Kb2 Kb3:Kont U El):Kont U El:=fun st=>exec X (cdp [1,1,1,0,1,0,0,1,1] bd) .d st (cutK nm3 Kb3) (Eblk 0 (cutK nm2 Kb2) (fun _ _=>none)) RR
theorem P0 (xs nx l sl dn):exec X (cdp [] bd) (.seq none .d (.seq (some nm1) .d (.seq none .d (.seq (some nm2) (.seq none .d (.block (.loop nm3 (.seq none .d (.seq (some nm4) .d .d))))) .d)))) (fr0 xs nx l sl dn) RR (fun _ _=>none) RR=sh0 xs nx l sl dn (fun y0 y1 y2 y3 y4=>(hid ct1) (fr1 y0 y1 y2 y3 y4)):=by kernel_rfl
theorem P1 (x0 gA iA jA kA):ct1 (fr1 x0 gA iA jA kA)=sh1 x0 gA iA jA kA (fun y0 y1 y2 y3 y4 y5 y6=>(hid (it3 (hid ct2) 100000)) (fr3 y0 y1 y2 y3 y4 y5 y6)):=by kernel_rfl
theorem P2 (m5 gA iA jA kA):ct2 (fr2 m5 gA iA jA kA)=sh2 m5 gA iA jA kA:=by kernel_rfl
theorem P3 (x0 m5 i6 gA iA jA kA) (Kb2 Kb3:Kont U El):exec X (cdp [1,1,1,0,1,0,0] bd) (.seq none .d (.seq (some nm4) .d .d)) (fr3 x0 m5 i6 gA iA jA kA) (cutK nm3 Kb3) (Eblk 0 (cutK nm2 Kb2) (fun _ _=>none)) RR=sh3 x0 m5 i6 gA iA jA kA (fun y0 y1 y2 y3 y4=>Kb2 (fr2 y0 y1 y2 y3 y4)) (fun y0 y1 y2 y3 y4 y5 y6=>(hid (ct4 Kb2 Kb3)) (fr4 y0 y1 y2 y3 y4 y5 y6)):=by kernel_rfl
theorem P4 (x0 m5 i6 gA iA jA kA) (Kb2 Kb3:Kont U El):ct4 Kb2 Kb3 (fr4 x0 m5 i6 gA iA jA kA)=sh4 x0 m5 i6 gA iA jA kA (fun y0 y1 y2 y3 y4 y5 y6=>Kb3 (fr3 y0 y1 y2 y3 y4 y5 y6)):=by kernel_rfl
noncomputable def f2 (m5:Int) (gA:Int) (iA:List Work) (jA:List Slot) (kA:List Bool):R:=sh2 m5 gA iA jA kA
noncomputable def f4 (k3:Y3) (x0:List Int) (m5:Int) (i6:Int) (gA:Int) (iA:List Work) (jA:List Slot) (kA:List Bool):R:=sh4 x0 m5 i6 gA iA jA kA k3
noncomputable def f3:Nat→Y3
  | 0=>fun _ _ _ _ _ _ _=>none
  | n+1=>fun x0 m5 i6 gA iA jA kA=>sh3 x0 m5 i6 gA iA jA kA f2 (f4 (f3 n))
noncomputable def f1 (x0:List Int) (gA:Int) (iA:List Work) (jA:List Slot) (kA:List Bool):R:=sh1 x0 gA iA jA kA (f3 100000)
noncomputable def f0 (xs:List Int) (nx:Int) (l:List Work) (sl:List Slot) (dn:List Bool):R:=sh0 xs nx l sl dn f1
theorem T2 (m5 gA iA jA kA):(hid ct2) (fr2 m5 gA iA jA kA)=f2 m5 gA iA jA kA:=by
  refine (congrFun (hid_eq _) _).trans <| (P2 m5 gA iA jA kA).trans ?_
  show _=sh2 m5 gA iA jA kA
  rfl
theorem T4 (KL3:Kont U El) (k3:Y3) (h3:∀ x0 m5 i6 gA iA jA kA,KL3 (fr3 x0 m5 i6 gA iA jA kA)=k3 x0 m5 i6 gA iA jA kA) (x0 m5 i6 gA iA jA kA):(hid (ct4 (hid ct2) KL3)) (fr4 x0 m5 i6 gA iA jA kA)=f4 k3 x0 m5 i6 gA iA jA kA:=by
  refine (congrFun (hid_eq _) _).trans <| (P4 x0 m5 i6 gA iA jA kA (hid ct2) KL3).trans ?_
  show _=sh4 x0 m5 i6 gA iA jA kA k3
  simp only [h3]
theorem T3:∀ (n:Nat),∀ x0 m5 i6 gA iA jA kA,it3 (hid ct2) n (fr3 x0 m5 i6 gA iA jA kA)=f3 n x0 m5 i6 gA iA jA kA:=by
  intro n
  induction n with
  | zero=>intros; rfl
  | succ n ih =>
    intro x0 m5 i6 gA iA jA kA
    refine (P3 x0 m5 i6 gA iA jA kA (hid ct2) (it3 (hid ct2) n)).trans ?_
    show _=sh3 x0 m5 i6 gA iA jA kA f2 (f4 (f3 n))
    simp only [T2,T4 (it3 (hid ct2) n) (f3 n) ih]
theorem H3 (x0 m5 i6 gA iA jA kA):hid (it3 (hid ct2) 100000) (fr3 x0 m5 i6 gA iA jA kA)=f3 100000 x0 m5 i6 gA iA jA kA:=(congrFun (hid_eq _) _).trans (T3 100000 x0 m5 i6 gA iA jA kA)
theorem T1 (x0 gA iA jA kA):(hid ct1) (fr1 x0 gA iA jA kA)=f1 x0 gA iA jA kA:=by
  refine (congrFun (hid_eq _) _).trans <| (P1 x0 gA iA jA kA).trans ?_
  show _=sh1 x0 gA iA jA kA (f3 100000)
  simp only [H3]
theorem T0 (xs nx l sl dn):exec X bd (.seq none .d (.seq (some nm1) .d (.seq none .d (.seq (some nm2) (.seq none .d (.block (.loop nm3 (.seq none .d (.seq (some nm4) .d .d))))) .d)))) (fr0 xs nx l sl dn) RR (fun _ _=>none) RR=f0 xs nx l sl dn:=by
  refine (P0 xs nx l sl dn).trans ?_
  show _=sh0 xs nx l sl dn f1
  simp only [T1]
theorem run (xs nx l sl dn):runM X bd (.seq none .d (.seq (some nm1) .d (.seq none .d (.seq (some nm2) (.seq none .d (.block (.loop nm3 (.seq none .d (.seq (some nm4) .d .d))))) .d)))) nmR [4] [(1000000000,(.box 1000000000 [(.ptr 1000000002 0)])),(1000000001,(.box 1000000001 [(.int .i64 nx)])),(1000000002,(.box 1000000002 [(.lst .work l),(.ful 1000000003),(.ful 1000000004)])),(1000000003,(.rows .slot sl)),(1000000004,(.rows .bool dn))] [(.lst .int xs),(.fn 50 [] [(.ptr 1000000000 0),(.ptr 1000000001 0)])]=f0 xs nx l sl dn:=T0 xs nx l sl dn
theorem loop (l : List Work) (sl : List Slot) (dn : List Bool) (q : Nat) (h : SS l sl dn q) (xs : List Int) (hx : xs.length ≤ 90000) : ∀ (n j : Nat) (m : Int) (cur : List Slot), xs.length < n + j → j ≤ xs.length → But sl cur q →
    f3 n xs m (j:Int) (q:Int) l cur dn=outG (minG l sl dn (q:Int) (xs.drop j) m) (q:Int) l (minOG l sl dn (q:Int) (xs.drop j) m cur) dn:=by
  intro n
  induction n with
  | zero=>intro j m cur h1 h2; omega
  | succ n ih =>
    intro j m cur h1 h2 hb
    show sh3 xs m (j:Int) (q:Int) l cur dn f2 (f4 (f3 n))=_
    unfold sh3
    obtain ⟨g1,g2,g3⟩:=but_SS h hb
    by_cases hj:j < xs.length
    · have e4 : ∀ (z : Int) (cc : List Slot), f4 (f3 n) xs z (j : Int) (q : Int) l cc dn = f3 n xs z ((j + 1 : Nat) : Int) (q : Int) l cc dn := fun z cc => by
        show f3 n xs z (IntKind.wrap .i64 ((j:Int)+1)) (q:Int) l cc dn=_
        rw [wrapS j (by omega)]
      rw [iltT (by simp; omega),inbT hj,okS_T g1,g2,g2,toNat_nat,toNat_nat,g3,getD_lt hj,e4,e4,drop_lt hj]
      simp only [minG,minOG,toNat_nat]
      cases ilt (cmpZ (startZ l sl dn (q:Int) xs[j]) (startZ l sl dn (q:Int) m)) 0 with
      | true=>exact ih (j+1) _ _ (by omega) hj (.inr ⟨_,_,rfl⟩)
      | false=>exact ih (j+1) _ _ (by omega) hj (.inr ⟨_,_,rfl⟩)
    · have : j = xs.length := by omega
      subst this
      rw [iltF (by simp),List.drop_length,condF]
      rfl
theorem f0_eq (xs:List Int) (nx:Int) (l:List Work) (sl:List Slot) (dn:List Bool) (h:(okS l sl dn nx&&(nlt 0 (List.length xs)&&nle (List.length xs) 90000))=true):f0 xs nx l sl dn=outG (minZ l sl dn nx xs) nx l (minO l sl dn nx xs) dn:=by
  simp only [Bool.and_eq_true] at h
  obtain ⟨q,rfl,hS⟩:=okS_of h.1
  have h1:0 < xs.length:=of_decide_eq_true h.2.1
  have h2:=nleI h.2.2
  show sh0 xs (q:Int) l sl dn f1=_
  unfold sh0
  rw [iltF (by simp; omega),condF]
  show sh1 xs (q:Int) l sl dn (f3 100000)=_
  unfold sh1
  rw [inb0 h1,chkT]
  exact loop l sl dn q hS xs h2 100000 1 _ sl (by omega) (by omega) (.inl rfl)
theorem ok:CtxOk Try.prog X:=ctxOk tab spN dpN
theorem okM:MOk Try.prog X:=mspecOf_ok _ (mpC (mcSp_ok ok gr1.spOk) mpN)
theorem spec (xs:List Int) (nx:Int) (l:List Work) (sl:List Slot) (dn:List Bool) (h:((okS l sl dn nx&&(nlt 0 (List.length xs)&&nle (List.length xs) 90000)))=true):MCall Try.prog E 49 [(.lst .int xs),(.fn 50 [] [(.ptr 1000000000 0),(.ptr 1000000001 0)])] [(1000000000,(.box 1000000000 [(.ptr 1000000002 0)])),(1000000001,(.box 1000000001 [(.int .i64 nx)])),(1000000002,(.box 1000000002 [(.lst .work l),(.ful 1000000003),(.ful 1000000004)])),(1000000003,(.rows .slot sl)),(1000000004,(.rows .bool dn))] (.int .i64 (minZ l sl dn nx xs)) [(1000000000,(.box 1000000000 [(.ptr 1000000002 0)])),(1000000001,(.box 1000000001 [(.int .i64 nx)])),(1000000002,(.box 1000000002 [(.lst .work l),(.ful 1000000003),(.ful 1000000004)])),(1000000003,(.rows .slot (minO l sl dn nx xs))),(1000000004,(.rows .bool dn))] :=
  runM_sound ok okM Try.func49 (by kernel_rfl) (by kernel_rfl) (by kernel_rfl) (by show 2≤33; decide) ((run xs nx l sl dn).trans (f0_eq xs nx l sl dn h))
noncomputable def sp:MSp U El:=fun args hs k=>match args,hs with
  | [.lst .int xs,.fn 50 [] [.ptr q0 0,.ptr q1 0]],[(q2,.box q3 [.ptr q4 0]),(q5,.box q6 [.int .i64 nx]),(q7,.box q8 [.lst .work l,.ful q9,.ful q10]),(q11,.rows .slot sl),(q12,.rows .bool dn)]=>chk (Nat.beq q0 1000000000&&(Nat.beq q1 1000000001&&(Nat.beq q2 1000000000&&(Nat.beq q3 1000000000&&(Nat.beq q4 1000000002&&(Nat.beq q5 1000000001&&(Nat.beq q6 1000000001&&(Nat.beq q7 1000000002&&(Nat.beq q8 1000000002&&(Nat.beq q9 1000000003&&(Nat.beq q10 1000000004&&(Nat.beq q11 1000000003&&(Nat.beq q12 1000000004&&true))))))))))))) (chk ((okS l sl dn nx&&(nlt 0 (List.length xs)&&nle (List.length xs) 90000))) (k (.int .i64 (minZ l sl dn nx xs)) [(1000000000,(.box 1000000000 [(.ptr 1000000002 0)])),(1000000001,(.box 1000000001 [(.int .i64 nx)])),(1000000002,(.box 1000000002 [(.lst .work l),(.ful 1000000003),(.ful 1000000004)])),(1000000003,(.rows .slot (minO l sl dn nx xs))),(1000000004,(.rows .bool dn))]))
  | _,_=>none
theorem spOk:MSpOk Try.prog E 49 sp:=⟨Try.call49,fun args hs k r h=>by
  unfold sp at h
  split at h
  · obtain ⟨hq, hA⟩ := chk_some h
    clear h
    simp only [Bool.and_eq_true] at hq
    obtain ⟨e0,e1,e2,e3,e4,e5,e6,e7,e8,e9,e10,e11,e12,_⟩:=hq
    cases Nat.eq_of_beq_eq_true e0
    cases Nat.eq_of_beq_eq_true e1
    cases Nat.eq_of_beq_eq_true e2
    cases Nat.eq_of_beq_eq_true e3
    cases Nat.eq_of_beq_eq_true e4
    cases Nat.eq_of_beq_eq_true e5
    cases Nat.eq_of_beq_eq_true e6
    cases Nat.eq_of_beq_eq_true e7
    cases Nat.eq_of_beq_eq_true e8
    cases Nat.eq_of_beq_eq_true e9
    cases Nat.eq_of_beq_eq_true e10
    cases Nat.eq_of_beq_eq_true e11
    cases Nat.eq_of_beq_eq_true e12
    obtain ⟨h1,hB⟩:=chk_some hA
    exact ⟨_,_,spec _ _ _ _ _ h1,hB⟩
  · cases h⟩
theorem spDet:∀ args hs,∃ oo:Option (AV U El×Heap U El),∀ k,sp args hs k=oo.bind fun p=>k p.1 p.2:=fun args hs=>by
  unfold sp
  split
  · exact det_chkM (det_chkM ⟨some (_,_),fun _=>rfl⟩)
  · exact ⟨none,fun _=>rfl⟩
end minF
namespace draftOf
noncomputable def bd:Code:=(Try.f42.body).getD .skip
noncomputable def X:Ctx U El:=⟨E,tds,zeros,eqs,specOf [],100000,12,dspecOf [],fun _=>none⟩
noncomputable def nmR:Norm U:=⟨[],[2],[11,500001101,500001102],[],[(11,1,.slot,500001101),(11,2,.bool,500001102)],[],[]⟩
noncomputable def RR:Kont U El:=fun st=>normK nmR st (retM [2])
noncomputable def fr0 (l:List Work):St U El:=⟨[(0,(.lst .work l))],[]⟩
noncomputable def sh0 (l:List Work):R :=
  chk (ile 0 (Int.ofNat (List.length l))&&ile (Int.ofNat (List.length l)) (Int.ofNat (List.length l))&&ile ((Int.ofNat (List.length l)) * 24) 140737488355328) (chk (ile 0 (Int.ofNat (List.length l))&&ile (Int.ofNat (List.length l)) (Int.ofNat (List.length l))&&ile ((Int.ofNat (List.length l)) * 1) 140737488355328) (some ((.ptr 11 0),[(11,(.box 0 [(.lst .work l),(.ful 500001101),(.ful 500001102)])),(500001101,(.rows .slot (List.replicate (Int.toNat (Int.ofNat (List.length l))) d_slot))),(500001102,(.rows .bool (List.replicate (Int.toNat (Int.ofNat (List.length l))) d_bool)))])))
theorem P0 (l):exec X (cdp [] bd) .d (fr0 l) RR (fun _ _=>none) RR=sh0 l:=by kernel_rfl
noncomputable def f0 (l:List Work):R:=sh0 l
theorem T0 (l):exec X bd .d (fr0 l) RR (fun _ _=>none) RR=f0 l:=by
  refine (P0 l).trans ?_
  show _=sh0 l
  rfl
theorem run (l):runM X bd .d nmR [2] [] [(.lst .work l)]=f0 l:=T0 l
theorem f0_eq (l:List Work) (h:nle (List.length l) 90000=true):f0 l=some ((.ptr 11 0),[(11,(.box 0 [(.lst .work l),(.ful 500001101),(.ful 500001102)])),(500001101,(.rows .slot (List.replicate l.length d_slot))),(500001102,(.rows .bool (List.replicate l.length d_bool)))]):=by
  have hl:=nleI h
  show sh0 l=_
  unfold sh0
  rw [ileT (show (0:Int)≤Int.ofNat l.length by simp),ileT (Int.le_refl (Int.ofNat l.length)),ileT (show Int.ofNat l.length * 24≤140737488355328 by simp; omega),ileT (show Int.ofNat l.length * 1≤140737488355328 by simp; omega)]
  rfl
theorem ok:CtxOk Try.prog X:=ctxOk tab spN dpN
theorem okM:MOk Try.prog X:=fun g sp h=>by cases h
theorem spec (l:List Work) (h:(nle (List.length l) 90000)=true):MCall Try.prog E 42 [(.lst .work l)] [] (.ptr 11 0) [(11,(.box 0 [(.lst .work (l)),(.ful 500001101),(.ful 500001102)])),(500001101,(.rows .slot (List.replicate (List.length l) d_slot))),(500001102,(.rows .bool (List.replicate (List.length l) d_bool)))] :=
  runM_sound ok okM Try.func42 (by kernel_rfl) (by kernel_rfl) (by kernel_rfl) (by show 1≤12; decide) ((run l).trans (f0_eq l h))
noncomputable def sp:MSp U El:=fun args hs k=>match args,hs with
  | [.lst .work l],[]=>chk true (chk (nle (List.length l) 90000) (k (.ptr 11 0) [(11,(.box 0 [(.lst .work (l)),(.ful 500001101),(.ful 500001102)])),(500001101,(.rows .slot (List.replicate (List.length l) d_slot))),(500001102,(.rows .bool (List.replicate (List.length l) d_bool)))]))
  | _,_=>none
theorem spOk:MSpOk Try.prog E 42 sp:=⟨Try.call42,fun args hs k r h=>by
  unfold sp at h
  split at h
  · obtain ⟨_, hA⟩ := chk_some h
    obtain ⟨h1,hB⟩:=chk_some hA
    exact ⟨_,_,spec _ h1,hB⟩
  · cases h⟩
theorem spDet:∀ args hs,∃ oo:Option (AV U El×Heap U El),∀ k,sp args hs k=oo.bind fun p=>k p.1 p.2:=fun args hs=>by
  unfold sp
  split
  · exact det_chkM (det_chkM ⟨some (_,_),fun _=>rfl⟩)
  · exact ⟨none,fun _=>rfl⟩
end draftOf
end Go.Proofs.Ythdklallcljhlaa
