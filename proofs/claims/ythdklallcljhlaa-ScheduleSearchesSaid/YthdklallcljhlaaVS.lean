/- Drafts: where a work starts, placing, the best crew. -/
import Derived.Test.YthdklallcljhlaaVP
namespace Go.Proofs.Ythdklallcljhlaa
set_option linter.unusedSectionVars false
set_option linter.unusedSimpArgs false
set_option linter.unusedVariables false
set_option maxRecDepth 100000
noncomputable def okS (l:List Work) (sl:List Slot) (dn:List Bool) (i:Int):Bool:=okD l sl dn i&&(List.all sl (fun s=>inb s.sw l.length)&&bx l dn i)
structure SS (l:List Work) (sl:List Slot) (dn:List Bool) (q:Nat):Prop where
  ff:FF l sl q
  okf:okF l sl (q:Int)=true
  dl:dn.length=l.length
  sw:∀ s∈sl,inb s.sw l.length=true
  dq:List.getD dn q d_bool=false
  wd:∀ a∈(List.getD l q aa).wa,∃ u:Nat,a=(u:Int)∧u < l.length∧List.getD dn u d_bool=true∧u≠q
theorem cT {l:List Work} {dn:List Bool} {q:Nat} (h:bx l dn (q:Int)=true):List.getD dn q d_bool=false∧∀ a∈(List.getD l q aa).wa,List.getD dn (Int.toNat a) d_bool=true:=by
  simp only [bx,Bool.and_eq_true,Bool.not_eq_true',ac] at h
  refine ⟨h.1,fun a ha => ?_⟩
  have h2:=List.any_eq_false.1 h.2 a ha
  simpa [aW] using h2
theorem qc {l:List Work} {sl:List Slot} {dn:List Bool} {i:Int} (h:okS l sl dn i=true):∃ q:Nat,i=(q:Int)∧SS l sl dn q:=by
  simp only [okS,okD,Bool.and_eq_true] at h
  obtain ⟨⟨h1,h2⟩,h3,h4⟩:=h
  obtain ⟨q,rfl,hf⟩:=kZ h1
  obtain ⟨g1,g2⟩:=cT h4
  refine ⟨q,rfl,hf,h1,Nat.eq_of_beq_eq_true h2,List.all_eq_true.1 h3,g1,fun a ha => ?_⟩
  have hb:=hf.ain a ha
  simp only [inb,Bool.and_eq_true] at hb
  obtain ⟨u,rfl⟩:=Int.eq_ofNat_of_zero_le (b7 hb.1)
  have hu:=dJ hb.2
  have hd:=g2 _ ha
  rw [ac] at hd
  exact ⟨u,rfl,by simp at hu; omega,hd,fun e=>by rw [e,g1] at hd; cases hd⟩
theorem aX (sl:List Slot) (i j:Nat) (v:Slot) (hi:i < sl.length):List.getD (sl.set i v) j d_slot=if i=j then v else List.getD sl j d_slot:=by
  rw [List.getD_eq_getElem?_getD,List.getElem?_set]
  by_cases e:i=j
  · subst e
    rw [if_pos rfl,if_pos hi,if_pos rfl]
    rfl
  · rw [if_neg e,if_neg e,List.getD_eq_getElem?_getD]
theorem qY {l:List Work} {sl:List Slot} {q:Nat} {v:Slot} (h:okF l sl (q:Int)=true):okF l (sl.set q v) (q:Int)=true:=by
  unfold okF at h ⊢
  rw [List.length_set]
  exact h
theorem r6 {l:List Work} {sl:List Slot} {dn:List Bool} {q:Nat} (h:SS l sl dn q):bx l dn (q:Int)=true:=by
  simp only [bx,Bool.and_eq_true,Bool.not_eq_true',ac]
  refine ⟨h.dq,List.any_eq_false.2 fun a ha => ?_⟩
  obtain ⟨u,rfl,_,hu,_⟩:=h.wd a ha
  have:aW dn (u:Int)=false:=by unfold aW; rw [ac,hu]; rfl
  rw [this]
  simp
theorem sJ {l:List Work} {sl:List Slot} {dn:List Bool} {q:Nat} (h:SS l sl dn q):okS l sl dn (q:Int)=true:=by
  simp only [okS,okD,Bool.and_eq_true]
  exact ⟨⟨h.okf,by rw [h.dl]; exact Nat.beq_refl _⟩,List.all_eq_true.2 h.sw,r6 h⟩
theorem SS.set {l:List Work} {sl:List Slot} {dn:List Bool} {q:Nat} (h:SS l sl dn q) (c z:Int):SS l (sl.set q ⟨(q:Int),c,z⟩) dn q:=by
  have hf:=qY (v:=⟨(q:Int),c,z⟩) h.okf
  obtain ⟨q',e,hff⟩:=kZ hf
  obtain rfl:q=q':=Int.ofNat.inj e
  refine ⟨hff,hf,h.dl,fun s hs => ?_,h.dq,h.wd⟩
  rcases List.mem_or_eq_of_mem_set hs with h1 | rfl
  · exact h.sw s h1
  · exact aZ h.ff.hi
noncomputable def cU (l:List Work) (sl:List Slot) (q:Nat):Int:=List.foldl (fun m a=>mx m (aE l (List.getD sl (Int.toNat a) d_slot))) 0 (List.getD l q aa).wa
noncomputable def jM (l:List Work) (sl:List Slot) (dn:List Bool) (f:Int):Nat→Nat→List Int→List Int
  | 0,_,acc=>acc
  | n+1,k,acc=>jM l sl dn f n (k+1) (bif List.getD dn k d_bool&&ilt f (aE l (List.getD sl k d_slot)) then acc++[aE l (List.getD sl k d_slot)] else acc)
noncomputable def jN (l:List Work) (sl:List Slot) (dn:List Bool) (q:Nat) (c:Int):List Int→Int→Int
  | [],d=>d
  | h :: t,d=>bif ci l (sl.set q ⟨(q:Int),c,h⟩) dn q == (0:Int) then h else jN l sl dn q c t h
noncomputable def fe (l:List Work) (sl:List Slot) (dn:List Bool) (q:Nat):List Int:=sortI (jM l sl dn (cU l sl q) l.length 0 [cU l sl q])
noncomputable def lg (l:List Work) (sl:List Slot) (dn:List Bool) (q:Nat) (c:Int):Int:=jN l sl dn q c (fe l sl dn q) 0
noncomputable def aC (l:List Work) (sl:List Slot) (dn:List Bool) (i c:Int):Int:=lg l sl dn (Int.toNat i) c
theorem nZ (l:List Work) (sl:List Slot) (dn:List Bool) (f:Int):∀ (n k:Nat) (acc:List Int),acc.length≤(jM l sl dn f n k acc).length∧(jM l sl dn f n k acc).length≤acc.length+n:=by
  intro n
  induction n with
  | zero=>intro k acc; exact ⟨Nat.le_refl _,Nat.le_refl _⟩
  | succ n ih =>
    intro k acc
    simp only [jM]
    obtain ⟨h1,h2⟩:=ih (k+1) (bif List.getD dn k d_bool&&ilt f (aE l (List.getD sl k d_slot)) then acc++[aE l (List.getD sl k d_slot)] else acc)
    revert h1 h2
    cases (List.getD dn k d_bool&&ilt f (aE l (List.getD sl k d_slot)))
    · intro h1 h2; rw [cond_false] at h1 h2 ⊢; omega
    · intro h1 h2; rw [cond_true] at h1 h2 ⊢; rw [List.length_append,List.length_singleton] at h1 h2; omega
theorem oV {l:List Work} (sl:List Slot) (dn:List Bool) (q:Nat):0 < (fe l sl dn q).length∧(fe l sl dn q).length≤1+l.length:=by
  obtain ⟨h1,h2⟩:=nZ l sl dn (cU l sl q) l.length 0 [cU l sl q]
  have e:(fe l sl dn q).length=(jM l sl dn (cU l sl q) l.length 0 [cU l sl q]).length:=List.length_mergeSort _
  rw [e]
  rw [List.length_singleton] at h1 h2
  omega
noncomputable def qZ (v:Int) (l:List Work) (sl:List Slot) (dn:List Bool):R:=some ((.int .i64 v),[(1000000000,(.box 1000000000 [(.lst .work l),(.ful 1000000001),(.ful 1000000002)])),(1000000001,(.rows .slot sl)),(1000000002,(.rows .bool dn))])
namespace start
noncomputable def bd:Code:=(Try.f52.body).getD .skip
noncomputable def X:Ctx U El:=⟨E,tds,zeros,eqs,aG [(32,faultDr.sp),(47,endc.sp)],100000,115,aD [],cg [(74,sortISp)]⟩
noncomputable def nmR:Norm U:=⟨[],[6],[1000000000,1000000001,1000000002],[],[(1000000000,1,.slot,1000000001),(1000000000,2,.bool,1000000002)],[],[]⟩
noncomputable def RR:ae U El:=fun st=>aM nmR st (dI [6])
noncomputable def nm1:Norm U:=⟨[],[1,2,3,7],[3,1000000000,1000000001,1000000002],[],[(1000000000,1,.slot,1000000001),(1000000000,2,.bool,1000000002)],[],[(1000000000,0,.work)]⟩
noncomputable def nm2:Norm U:=⟨[],[1,2,3,7,23,24,25],[3,1000000000,1000000001,1000000002],[],[(1000000000,1,.slot,1000000001),(1000000000,2,.bool,1000000002)],[],[(1000000000,0,.work)]⟩
noncomputable def nm3:Norm U:=⟨[(10,.int)],[1,2,3,10],[10,3,1000000000,1000000001,1000000002],[],[(1000000000,1,.slot,1000000001),(1000000000,2,.bool,1000000002)],[],[(1000000000,0,.work)]⟩
noncomputable def nm4:Norm U:=⟨[(10,.int)],[1,2,3,7,10,49,50,51],[10,3,1000000000,1000000001,1000000002],[],[(1000000000,1,.slot,1000000001),(1000000000,2,.bool,1000000002)],[],[(1000000000,0,.work)]⟩
noncomputable def nm5:Norm U:=⟨[(10,.int)],[1,2,3,7,10,49,50,51],[10,3,1000000000,1000000001,1000000002],[],[(1000000000,1,.slot,1000000001),(1000000000,2,.bool,1000000002)],[],[(1000000000,0,.work)]⟩
noncomputable def nm6:Norm U:=⟨[(10,.int)],[10],[10,1000000000,1000000001,1000000002],[],[(1000000000,1,.slot,1000000001),(1000000000,2,.bool,1000000002)],[],[(1000000000,0,.work)]⟩
noncomputable def nm7:Norm U:=⟨[(10,.int)],[1,2,3,10,79,80,81],[10,3,1000000000,1000000001,1000000002],[],[(1000000000,1,.slot,1000000001),(1000000000,2,.bool,1000000002)],[],[(1000000000,0,.work)]⟩
abbrev Y1:=Int→Int→Int→(List Work)→(List Slot)→(List Bool)→R
abbrev Y2:=Int→Int→Int→(List Int)→Int→Int→(List Work)→(List Slot)→(List Bool)→R
abbrev Y3:=Int→Int→(List Int)→(List Work)→(List Slot)→(List Bool)→R
abbrev Y4:=Int→Int→Int→(List Int)→Int→Int→(List Work)→(List Slot)→(List Bool)→R
abbrev Y5:=Int→Int→Int→(List Int)→Int→Int→(List Work)→(List Slot)→(List Bool)→R
abbrev Y6:=(List Int)→(List Work)→(List Slot)→(List Bool)→R
abbrev Y7:=Int→Int→(List Int)→Int→Int→(List Work)→(List Slot)→(List Bool)→R
noncomputable def fr0 (i:Int) (crew:Int) (l:List Work) (sl:List Slot) (dn:List Bool):St U El:=⟨[(0,(.ptr 1000000000 0)),(1,(.int .i64 i)),(2,(.int .i64 crew))],[(1000000000,(.box 1000000000 [(.lst .work l),(.ful 1000000001),(.ful 1000000002)])),(1000000001,(.rows .slot sl)),(1000000002,(.rows .bool dn))]⟩
noncomputable def fr1 (i1:Int) (eA:Int) (fA:Int) (cA:List Work) (bA:List Slot) (dA:List Bool):St U El:=⟨[(1,(.int .i64 i1)),(2,(.int .i64 eA)),(3,(.ptr 3 0)),(7,(.int .i64 fA))],[(3,(.box 0 [(.ptr 1000000000 0)])),(1000000000,(.box 1000000000 [(.lst .work cA),(.ful 1000000001),(.ful 1000000002)])),(1000000001,(.rows .slot bA)),(1000000002,(.rows .bool dA))]⟩
noncomputable def fr2 (i1:Int) (eA:Int) (fA:Int) (pA:List Int) (qA:Int) (oA:Int) (cA:List Work) (bA:List Slot) (dA:List Bool):St U El:=⟨[(1,(.int .i64 i1)),(2,(.int .i64 eA)),(3,(.ptr 3 0)),(7,(.int .i64 fA)),(23,(.lst .int pA)),(24,(.int .i64 qA)),(25,(.int .i64 oA))],[(3,(.box 0 [(.ptr 1000000000 0)])),(1000000000,(.box 1000000000 [(.lst .work cA),(.ful 1000000001),(.ful 1000000002)])),(1000000001,(.rows .slot bA)),(1000000002,(.rows .bool dA))]⟩
noncomputable def fr3 (i1:Int) (eA:Int) (aA:List Int) (cA:List Work) (bA:List Slot) (dA:List Bool):St U El:=⟨[(1,(.int .i64 i1)),(2,(.int .i64 eA)),(3,(.ptr 3 0)),(10,(.ful 10))],[(10,(.rows .int aA)),(3,(.box 0 [(.ptr 1000000000 0)])),(1000000000,(.box 1000000000 [(.lst .work cA),(.ful 1000000001),(.ful 1000000002)])),(1000000001,(.rows .slot bA)),(1000000002,(.rows .bool dA))]⟩
noncomputable def fr4 (i1:Int) (eA:Int) (fA:Int) (aA:List Int) (mA:Int) (lA:Int) (cA:List Work) (bA:List Slot) (dA:List Bool):St U El:=⟨[(1,(.int .i64 i1)),(2,(.int .i64 eA)),(3,(.ptr 3 0)),(7,(.int .i64 fA)),(10,(.ful 10)),(49,(.ful 1000000002)),(50,(.int .i64 mA)),(51,(.int .i64 lA))],[(10,(.rows .int aA)),(3,(.box 0 [(.ptr 1000000000 0)])),(1000000000,(.box 1000000000 [(.lst .work cA),(.ful 1000000001),(.ful 1000000002)])),(1000000001,(.rows .slot bA)),(1000000002,(.rows .bool dA))]⟩
noncomputable def fr5 (i1:Int) (eA:Int) (fA:Int) (aA:List Int) (mA:Int) (lA:Int) (cA:List Work) (bA:List Slot) (dA:List Bool):St U El:=⟨[(1,(.int .i64 i1)),(2,(.int .i64 eA)),(3,(.ptr 3 0)),(7,(.int .i64 fA)),(10,(.ful 10)),(49,(.ful 1000000002)),(50,(.int .i64 mA)),(51,(.int .i64 lA))],[(10,(.rows .int aA)),(3,(.box 0 [(.ptr 1000000000 0)])),(1000000000,(.box 1000000000 [(.lst .work cA),(.ful 1000000001),(.ful 1000000002)])),(1000000001,(.rows .slot bA)),(1000000002,(.rows .bool dA))]⟩
noncomputable def fr6 (aA:List Int) (cA:List Work) (bA:List Slot) (dA:List Bool):St U El:=⟨[(10,(.ful 10))],[(10,(.rows .int aA)),(1000000000,(.box 1000000000 [(.lst .work cA),(.ful 1000000001),(.ful 1000000002)])),(1000000001,(.rows .slot bA)),(1000000002,(.rows .bool dA))]⟩
noncomputable def fr7 (i1:Int) (eA:Int) (aA:List Int) (rA:Int) (nA:Int) (cA:List Work) (bA:List Slot) (dA:List Bool):St U El:=⟨[(1,(.int .i64 i1)),(2,(.int .i64 eA)),(3,(.ptr 3 0)),(10,(.ful 10)),(79,(.ful 10)),(80,(.int .i64 rA)),(81,(.int .i64 nA))],[(10,(.rows .int aA)),(3,(.box 0 [(.ptr 1000000000 0)])),(1000000000,(.box 1000000000 [(.lst .work cA),(.ful 1000000001),(.ful 1000000002)])),(1000000001,(.rows .slot bA)),(1000000002,(.rows .bool dA))]⟩
noncomputable def sh0 (i:Int) (crew:Int) (l:List Work) (sl:List Slot) (dn:List Bool) (k2:Y2):R :=
  chk (inb i (List.length l)) (k2 i crew (0:Int) ((List.getD l (Int.toNat i) aa).wa) (Int.ofNat (List.length ((List.getD l (Int.toNat i) aa).wa))) (0:Int) l sl dn)
noncomputable def sh1 (i1:Int) (eA:Int) (fA:Int) (cA:List Work) (bA:List Slot) (dA:List Bool) (k4:Y4):R :=
  k4 i1 eA fA ([fA]:List Int) (Int.ofNat (List.length dA)) (0:Int) cA bA dA
noncomputable def sh2 (i1:Int) (eA:Int) (fA:Int) (pA:List Int) (qA:Int) (oA:Int) (cA:List Work) (bA:List Slot) (dA:List Bool) (k1:Y1) (k2:Y2):R :=
  ah (ilt oA qA) (chk (inb oA (List.length pA)) (chk (inb (List.getD pA (Int.toNat oA) d_int) (List.length bA)) (chk (nlt (Int.toNat (List.getD pA (Int.toNat oA) d_int)) (List.length bA)) (chk (inb (Slot.sw (List.getD bA (Int.toNat (List.getD pA (Int.toNat oA) d_int)) d_slot)) (List.length cA)) (k2 i1 eA (bif ilt fA (aE cA (List.getD bA (Int.toNat (List.getD pA (Int.toNat oA) d_int)) d_slot)) then (aE cA (List.getD bA (Int.toNat (List.getD pA (Int.toNat oA) d_int)) d_slot)) else fA) pA qA (IntKind.wrap .i64 (oA+(1:Int))) cA bA dA))))) (k1 i1 eA fA cA bA dA)
noncomputable def sh3 (i1:Int) (eA:Int) (aA:List Int) (cA:List Work) (bA:List Slot) (dA:List Bool) (k7:Y7):R :=
  chk (nle (List.length aA) 100000) (k7 i1 eA (sortI aA) (Int.ofNat (List.length (sortI aA))) (0:Int) cA bA dA)
noncomputable def sh4 (i1:Int) (eA:Int) (fA:Int) (aA:List Int) (mA:Int) (lA:Int) (cA:List Work) (bA:List Slot) (dA:List Bool) (k3:Y3) (k5:Y5):R :=
  ah (ilt lA mA) (chk (inb lA (List.length dA)) (chk (nlt (Int.toNat lA) (List.length dA)) (ah (List.getD dA (Int.toNat lA) d_bool) (chk (inb lA (List.length bA)) (chk (nlt (Int.toNat lA) (List.length bA)) (chk (inb (Slot.sw (List.getD bA (Int.toNat lA) d_slot)) (List.length cA)) (ah (ilt fA (aE cA (List.getD bA (Int.toNat lA) d_slot))) (chk (nle ((List.length aA+List.length ([(aE cA (List.getD bA (Int.toNat lA) d_slot))]:List Int)) * 8) 140737488355328&&nle (List.length aA+List.length ([(aE cA (List.getD bA (Int.toNat lA) d_slot))]:List Int)) 9223372036854775807) (k5 i1 eA fA (aA++([(aE cA (List.getD bA (Int.toNat lA) d_slot))]:List Int)) mA lA cA bA dA)) (k5 i1 eA fA aA mA lA cA bA dA))))) (k5 i1 eA fA aA mA lA cA bA dA)))) (k3 i1 eA aA cA bA dA)
noncomputable def sh5 (i1:Int) (eA:Int) (fA:Int) (aA:List Int) (mA:Int) (lA:Int) (cA:List Work) (bA:List Slot) (dA:List Bool) (k4:Y4):R :=
  k4 i1 eA fA aA mA (IntKind.wrap .i64 (lA+(1:Int))) cA bA dA
noncomputable def sh6 (aA:List Int) (cA:List Work) (bA:List Slot) (dA:List Bool):R :=
  chk (inb (IntKind.wrap .i64 ((Int.ofNat (List.length aA)) - (1:Int))) (List.length aA)) (chk (nlt (Int.toNat (IntKind.wrap .i64 ((Int.ofNat (List.length aA)) - (1:Int)))) (List.length aA)) (some ((.int .i64 (List.getD aA (Int.toNat (IntKind.wrap .i64 ((Int.ofNat (List.length aA)) - (1:Int)))) d_int)),[(1000000000,(.box 1000000000 [(.lst .work cA),(.ful 1000000001),(.ful 1000000002)])),(1000000001,(.rows .slot bA)),(1000000002,(.rows .bool dA))])))
noncomputable def sh7 (i1:Int) (eA:Int) (aA:List Int) (rA:Int) (nA:Int) (cA:List Work) (bA:List Slot) (dA:List Bool) (k6:Y6) (k7:Y7):R :=
  ah (ilt nA rA) (chk (inb nA (List.length aA)) (chk (nlt (Int.toNat nA) (List.length aA)) (chk (inb i1 (List.length bA)) (chk (nlt (Int.toNat i1) (List.length bA)&&true) (chk (okD cA (List.set bA (Int.toNat i1) (⟨i1,eA,(List.getD aA (Int.toNat nA) d_int)⟩:Slot)) dA i1) (ah ((ia cA (List.set bA (Int.toNat i1) (⟨i1,eA,(List.getD aA (Int.toNat nA) d_int)⟩:Slot)) dA i1) == (0:Int)) (some ((.int .i64 (List.getD aA (Int.toNat nA) d_int)),[(1000000000,(.box 1000000000 [(.lst .work cA),(.ful 1000000001),(.ful 1000000002)])),(1000000001,(.rows .slot (List.set bA (Int.toNat i1) (⟨i1,eA,(List.getD aA (Int.toNat nA) d_int)⟩:Slot)))),(1000000002,(.rows .bool dA))])) (k7 i1 eA aA rA (IntKind.wrap .i64 (nA+(1:Int))) cA (List.set bA (Int.toNat i1) (⟨i1,eA,(List.getD aA (Int.toNat nA) d_int)⟩:Slot)) dA))))))) (k6 aA cA bA dA)
noncomputable def it2 (Kb1:ae U El) (n:Nat):ae U El:=bL nm2 (fun st' K'=>ak X (cdp [1,1,0,1,0,0] bd) .d st' K' (aw 0 (ap nm1 Kb1) (fun _ _=>none)) RR) n
noncomputable def it4 (Kb3:ae U El) (n:Nat):ae U El:=bL nm4 (fun st' K'=>ak X (cdp [1,1,1,1,0,1,0,0] bd) (.seq none .d (.seq none .d (.seq (some nm5) .d .d))) st' K' (aw 2 (ap nm3 Kb3) (fun _ _=>none)) RR) n
noncomputable def it7 (Kb6:ae U El) (n:Nat):ae U El:=bL nm7 (fun st' K'=>ak X (cdp [1,1,1,1,1,1,0,1,0,0] bd) .d st' K' (aw 4 (ap nm6 Kb6) (fun _ _=>none)) RR) n
noncomputable def ct1:ae U El:=fun st=>ak X (cdp [1,1,1] bd) (.seq none .d (.seq (some nm3) (.seq none .d (.block (.loop nm4 (.seq none .d (.seq none .d (.seq (some nm5) .d .d)))))) (.seq none .d (.seq (some nm6) (.seq none .d (.block (.loop nm7 .d))) .d)))) st RR (fun _ _=>none) RR
noncomputable def ct3:ae U El:=fun st=>ak X (cdp [1,1,1,1,1] bd) (.seq none .d (.seq (some nm6) (.seq none .d (.block (.loop nm7 .d))) .d)) st RR (fun _ _=>none) RR
noncomputable def ct5 (Kb3 Kb4:ae U El):ae U El:=fun st=>ak X (cdp [1,1,1,1,0,1,0,0,1,1,1] bd) .d st (ap nm4 Kb4) (aw 2 (ap nm3 Kb3) (fun _ _=>none)) RR
noncomputable def ct6:ae U El:=fun st=>ak X (cdp [1,1,1,1,1,1,1] bd) .d st RR (fun _ _=>none) RR
theorem P0 (i crew l sl dn):ak X (cdp [] bd) (.seq none .d (.seq none .d (.seq (some nm1) (.seq none .d (.block (.loop nm2 .d))) (.seq none .d (.seq (some nm3) (.seq none .d (.block (.loop nm4 (.seq none .d (.seq none .d (.seq (some nm5) .d .d)))))) (.seq none .d (.seq (some nm6) (.seq none .d (.block (.loop nm7 .d))) .d))))))) (fr0 i crew l sl dn) RR (fun _ _=>none) RR=sh0 i crew l sl dn (fun y0 y1 y2 y3 y4 y5 y6 y7 y8=>(hid (it2 (hid ct1) 100000)) (fr2 y0 y1 y2 y3 y4 y5 y6 y7 y8)):=by kernel_rfl
theorem P1 (i1 eA fA cA bA dA):ct1 (fr1 i1 eA fA cA bA dA)=sh1 i1 eA fA cA bA dA (fun y0 y1 y2 y3 y4 y5 y6 y7 y8=>(hid (it4 (hid ct3) 100000)) (fr4 y0 y1 y2 y3 y4 y5 y6 y7 y8)):=by kernel_rfl
theorem P2 (i1 eA fA pA qA oA cA bA dA) (Kb1 Kb2:ae U El):ak X (cdp [1,1,0,1,0,0] bd) .d (fr2 i1 eA fA pA qA oA cA bA dA) (ap nm2 Kb2) (aw 0 (ap nm1 Kb1) (fun _ _=>none)) RR=sh2 i1 eA fA pA qA oA cA bA dA (fun y0 y1 y2 y3 y4 y5=>Kb1 (fr1 y0 y1 y2 y3 y4 y5)) (fun y0 y1 y2 y3 y4 y5 y6 y7 y8=>Kb2 (fr2 y0 y1 y2 y3 y4 y5 y6 y7 y8)):=by kernel_rfl
theorem P3 (i1 eA aA cA bA dA):ct3 (fr3 i1 eA aA cA bA dA)=sh3 i1 eA aA cA bA dA (fun y0 y1 y2 y3 y4 y5 y6 y7=>(hid (it7 (hid ct6) 100000)) (fr7 y0 y1 y2 y3 y4 y5 y6 y7)):=by kernel_rfl
theorem P4 (i1 eA fA aA mA lA cA bA dA) (Kb3 Kb4:ae U El):ak X (cdp [1,1,1,1,0,1,0,0] bd) (.seq none .d (.seq none .d (.seq (some nm5) .d .d))) (fr4 i1 eA fA aA mA lA cA bA dA) (ap nm4 Kb4) (aw 2 (ap nm3 Kb3) (fun _ _=>none)) RR=sh4 i1 eA fA aA mA lA cA bA dA (fun y0 y1 y2 y3 y4 y5=>Kb3 (fr3 y0 y1 y2 y3 y4 y5)) (fun y0 y1 y2 y3 y4 y5 y6 y7 y8=>(hid (ct5 Kb3 Kb4)) (fr5 y0 y1 y2 y3 y4 y5 y6 y7 y8)):=by kernel_rfl
theorem P5 (i1 eA fA aA mA lA cA bA dA) (Kb3 Kb4:ae U El):ct5 Kb3 Kb4 (fr5 i1 eA fA aA mA lA cA bA dA)=sh5 i1 eA fA aA mA lA cA bA dA (fun y0 y1 y2 y3 y4 y5 y6 y7 y8=>Kb4 (fr4 y0 y1 y2 y3 y4 y5 y6 y7 y8)):=by kernel_rfl
theorem P6 (aA cA bA dA):ct6 (fr6 aA cA bA dA)=sh6 aA cA bA dA:=by kernel_rfl
theorem P7 (i1 eA aA rA nA cA bA dA) (Kb6 Kb7:ae U El):ak X (cdp [1,1,1,1,1,1,0,1,0,0] bd) .d (fr7 i1 eA aA rA nA cA bA dA) (ap nm7 Kb7) (aw 4 (ap nm6 Kb6) (fun _ _=>none)) RR=sh7 i1 eA aA rA nA cA bA dA (fun y0 y1 y2 y3=>Kb6 (fr6 y0 y1 y2 y3)) (fun y0 y1 y2 y3 y4 y5 y6 y7=>Kb7 (fr7 y0 y1 y2 y3 y4 y5 y6 y7)):=by kernel_rfl
noncomputable def f6 (aA:List Int) (cA:List Work) (bA:List Slot) (dA:List Bool):R:=sh6 aA cA bA dA
noncomputable def f7:Nat→Y7
  | 0=>fun _ _ _ _ _ _ _ _=>none
  | n+1=>fun i1 eA aA rA nA cA bA dA=>sh7 i1 eA aA rA nA cA bA dA f6 (f7 n)
noncomputable def f3 (i1:Int) (eA:Int) (aA:List Int) (cA:List Work) (bA:List Slot) (dA:List Bool):R:=sh3 i1 eA aA cA bA dA (f7 100000)
noncomputable def f5 (k4:Y4) (i1:Int) (eA:Int) (fA:Int) (aA:List Int) (mA:Int) (lA:Int) (cA:List Work) (bA:List Slot) (dA:List Bool):R:=sh5 i1 eA fA aA mA lA cA bA dA k4
noncomputable def f4:Nat→Y4
  | 0=>fun _ _ _ _ _ _ _ _ _=>none
  | n+1=>fun i1 eA fA aA mA lA cA bA dA=>sh4 i1 eA fA aA mA lA cA bA dA f3 (f5 (f4 n))
noncomputable def f1 (i1:Int) (eA:Int) (fA:Int) (cA:List Work) (bA:List Slot) (dA:List Bool):R:=sh1 i1 eA fA cA bA dA (f4 100000)
noncomputable def f2:Nat→Y2
  | 0=>fun _ _ _ _ _ _ _ _ _=>none
  | n+1=>fun i1 eA fA pA qA oA cA bA dA=>sh2 i1 eA fA pA qA oA cA bA dA f1 (f2 n)
noncomputable def f0 (i:Int) (crew:Int) (l:List Work) (sl:List Slot) (dn:List Bool):R:=sh0 i crew l sl dn (f2 100000)
theorem T6 (aA cA bA dA):(hid ct6) (fr6 aA cA bA dA)=f6 aA cA bA dA:=by
  refine (congrFun (am _) _).trans <| (P6 aA cA bA dA).trans ?_
  show _=sh6 aA cA bA dA
  rfl
theorem T7:∀ (n:Nat),∀ i1 eA aA rA nA cA bA dA,it7 (hid ct6) n (fr7 i1 eA aA rA nA cA bA dA)=f7 n i1 eA aA rA nA cA bA dA:=by
  intro n
  induction n with
  | zero=>intros; rfl
  | succ n ih =>
    intro i1 eA aA rA nA cA bA dA
    refine (P7 i1 eA aA rA nA cA bA dA (hid ct6) (it7 (hid ct6) n)).trans ?_
    show _=sh7 i1 eA aA rA nA cA bA dA f6 (f7 n)
    simp only [T6,ih]
theorem H7 (i1 eA aA rA nA cA bA dA):hid (it7 (hid ct6) 100000) (fr7 i1 eA aA rA nA cA bA dA)=f7 100000 i1 eA aA rA nA cA bA dA:=(congrFun (am _) _).trans (T7 100000 i1 eA aA rA nA cA bA dA)
theorem T3 (i1 eA aA cA bA dA):(hid ct3) (fr3 i1 eA aA cA bA dA)=f3 i1 eA aA cA bA dA:=by
  refine (congrFun (am _) _).trans <| (P3 i1 eA aA cA bA dA).trans ?_
  show _=sh3 i1 eA aA cA bA dA (f7 100000)
  simp only [H7]
theorem T5 (KL4:ae U El) (k4:Y4) (h4:∀ i1 eA fA aA mA lA cA bA dA,KL4 (fr4 i1 eA fA aA mA lA cA bA dA)=k4 i1 eA fA aA mA lA cA bA dA) (i1 eA fA aA mA lA cA bA dA):(hid (ct5 (hid ct3) KL4)) (fr5 i1 eA fA aA mA lA cA bA dA)=f5 k4 i1 eA fA aA mA lA cA bA dA:=by
  refine (congrFun (am _) _).trans <| (P5 i1 eA fA aA mA lA cA bA dA (hid ct3) KL4).trans ?_
  show _=sh5 i1 eA fA aA mA lA cA bA dA k4
  simp only [h4]
theorem T4:∀ (n:Nat),∀ i1 eA fA aA mA lA cA bA dA,it4 (hid ct3) n (fr4 i1 eA fA aA mA lA cA bA dA)=f4 n i1 eA fA aA mA lA cA bA dA:=by
  intro n
  induction n with
  | zero=>intros; rfl
  | succ n ih =>
    intro i1 eA fA aA mA lA cA bA dA
    refine (P4 i1 eA fA aA mA lA cA bA dA (hid ct3) (it4 (hid ct3) n)).trans ?_
    show _=sh4 i1 eA fA aA mA lA cA bA dA f3 (f5 (f4 n))
    simp only [T3,T5 (it4 (hid ct3) n) (f4 n) ih]
theorem H4 (i1 eA fA aA mA lA cA bA dA):hid (it4 (hid ct3) 100000) (fr4 i1 eA fA aA mA lA cA bA dA)=f4 100000 i1 eA fA aA mA lA cA bA dA:=(congrFun (am _) _).trans (T4 100000 i1 eA fA aA mA lA cA bA dA)
theorem T1 (i1 eA fA cA bA dA):(hid ct1) (fr1 i1 eA fA cA bA dA)=f1 i1 eA fA cA bA dA:=by
  refine (congrFun (am _) _).trans <| (P1 i1 eA fA cA bA dA).trans ?_
  show _=sh1 i1 eA fA cA bA dA (f4 100000)
  simp only [H4]
theorem T2:∀ (n:Nat),∀ i1 eA fA pA qA oA cA bA dA,it2 (hid ct1) n (fr2 i1 eA fA pA qA oA cA bA dA)=f2 n i1 eA fA pA qA oA cA bA dA:=by
  intro n
  induction n with
  | zero=>intros; rfl
  | succ n ih =>
    intro i1 eA fA pA qA oA cA bA dA
    refine (P2 i1 eA fA pA qA oA cA bA dA (hid ct1) (it2 (hid ct1) n)).trans ?_
    show _=sh2 i1 eA fA pA qA oA cA bA dA f1 (f2 n)
    simp only [T1,ih]
theorem H2 (i1 eA fA pA qA oA cA bA dA):hid (it2 (hid ct1) 100000) (fr2 i1 eA fA pA qA oA cA bA dA)=f2 100000 i1 eA fA pA qA oA cA bA dA:=(congrFun (am _) _).trans (T2 100000 i1 eA fA pA qA oA cA bA dA)
theorem T0 (i crew l sl dn):ak X bd (.seq none .d (.seq none .d (.seq (some nm1) (.seq none .d (.block (.loop nm2 .d))) (.seq none .d (.seq (some nm3) (.seq none .d (.block (.loop nm4 (.seq none .d (.seq none .d (.seq (some nm5) .d .d)))))) (.seq none .d (.seq (some nm6) (.seq none .d (.block (.loop nm7 .d))) .d))))))) (fr0 i crew l sl dn) RR (fun _ _=>none) RR=f0 i crew l sl dn:=by
  refine (P0 i crew l sl dn).trans ?_
  show _=sh0 i crew l sl dn (f2 100000)
  simp only [H2]
theorem run (i crew l sl dn):jy X bd (.seq none .d (.seq none .d (.seq (some nm1) (.seq none .d (.block (.loop nm2 .d))) (.seq none .d (.seq (some nm3) (.seq none .d (.block (.loop nm4 (.seq none .d (.seq none .d (.seq (some nm5) .d .d)))))) (.seq none .d (.seq (some nm6) (.seq none .d (.block (.loop nm7 .d))) .d))))))) nmR [6] [(1000000000,(.box 1000000000 [(.lst .work l),(.ful 1000000001),(.ful 1000000002)])),(1000000001,(.rows .slot sl)),(1000000002,(.rows .bool dn))] [(.ptr 1000000000 0),(.int .i64 i),(.int .i64 crew)]=f0 i crew l sl dn:=T0 i crew l sl dn
theorem firstLoop (l:List Work) (sl:List Slot) (dn:List Bool) (q:Nat) (h:SS l sl dn q) (c:Int) (wa:List Int) (hl:wa.length≤90000) (hwa:∀ a∈wa,∃ u:Nat,a=(u:Int)∧u < l.length):∀ (n j:Nat) (m:Int),wa.length < n+j→j≤wa.length →
    f2 n (q:Int) c m wa (Int.ofNat wa.length) (j:Int) l sl dn=f1 (q:Int) c (List.foldl (fun m a=>mx m (aE l (List.getD sl (Int.toNat a) d_slot))) m (wa.drop j)) l sl dn:=by
  intro n
  induction n with
  | zero=>intro j m h1 h2; omega
  | succ n ih =>
    intro j m h1 h2
    show sh2 (q:Int) c m wa (Int.ofNat wa.length) (j:Int) l sl dn f1 (f2 n)=_
    unfold sh2
    by_cases hj:j < wa.length
    · obtain ⟨u, hu, hul⟩ := hwa _ (List.getElem_mem hj)
      have hus:u < sl.length:=by rw [h.ff.lp]; exact hul
      rw [bw (by simp; omega),aZ hj,ac,al hj,bl hj,List.foldl_cons,hu,aZ hus,ac,eb hus,show inb (Slot.sw (List.getD sl u d_slot)) l.length=true by rw [al hus]; exact h.sw _ (List.getElem_mem hus),bo j (by omega),cH,cS,cS,cS,cS]
      exact ih (j+1) _ (by omega) hj
    · have : j = wa.length := by omega
      subst this
      rw [bp (by simp),List.drop_length,bV]
      rfl
theorem oW (l : List Work) (sl : List Slot) (dn : List Bool) (q : Nat) (h : SS l sl dn q) (c f : Int) : ∀ (n k : Nat) (acc : List Int), dn.length < n + k → k ≤ dn.length → acc.length ≤ k + 1 →
    f4 n (q:Int) c f acc (Int.ofNat dn.length) (k:Int) l sl dn=f3 (q:Int) c (jM l sl dn f (l.length - k) k acc) l sl dn:=by
  have hdl:=h.dl
  have hn:=h.ff.n
  intro n
  induction n with
  | zero=>intro k acc h1 h2; omega
  | succ n ih =>
    intro k acc h1 h2 h3
    show sh4 (q:Int) c f acc (Int.ofNat dn.length) (k:Int) l sl dn f3 (f5 (f4 n))=_
    unfold sh4
    by_cases hk:k < dn.length
    · have hks : k < sl.length := by rw [h.ff.lp]; omega
      have e5:∀ acc:List Int,f5 (f4 n) (q:Int) c f acc (Int.ofNat dn.length) (k:Int) l sl dn=f4 n (q:Int) c f acc (Int.ofNat dn.length) ((k+1:Nat):Int) l sl dn:=fun acc=>by
        show f4 n (q:Int) c f acc (Int.ofNat dn.length) (IntKind.wrap .i64 ((k:Int)+1)) l sl dn=_
        rw [bo k (by omega)]
      have e1:nle ((acc.length+[aE l (List.getD sl k d_slot)].length) * 8) 140737488355328=true:=bC (by rw [List.length_singleton]; omega)
      have e2:nle (acc.length+[aE l (List.getD sl k d_slot)].length) 9223372036854775807=true:=bC (by rw [List.length_singleton]; omega)
      rw [bw (by simp; omega),aZ hk,ac,eb hk,aZ hks,eb hks,show inb (Slot.sw (List.getD sl k d_slot)) l.length=true by rw [al hks]; exact h.sw _ (List.getElem_mem hks),e1,e2,e5,e5,show l.length - k=(l.length - (k+1))+1 by omega]
      simp only [jM]
      cases hd:List.getD dn k d_bool with
      | false=>exact ih (k+1) acc (by omega) hk (by omega)
      | true =>
        rw [Bool.true_and]
        cases hf:ilt f (aE l (List.getD sl k d_slot)) with
        | false=>exact ih (k+1) acc (by omega) hk (by omega)
        | true=>exact ih (k+1) (acc++[aE l (List.getD sl k d_slot)]) (by omega) hk (by rw [List.length_append,List.length_singleton]; omega)
    · have : k = dn.length := by omega
      subst this
      rw [bp (by simp),bV,show l.length - dn.length=0 by omega]
      rfl
theorem ra (l : List Work) (sl : List Slot) (dn : List Bool) (q : Nat) (h : SS l sl dn q) (c : Int) (H : List Int) (hH : 0 < H.length) (hH9 : H.length ≤ 100000) : ∀ (n j : Nat) (d : Int) (cur : List Slot), H.length < n + j → j ≤ H.length → (0 < j → cur = sl.set q ⟨(q : Int), c, d⟩ ∧ List.getD H (j - 1) d_int = d) → (j = 0 → cur = sl) →
    f7 n (q:Int) c H (Int.ofNat H.length) (j:Int) l cur dn=qZ (jN l sl dn q c (H.drop j) d) l (sl.set q ⟨(q:Int),c,jN l sl dn q c (H.drop j) d⟩) dn:=by
  intro n
  induction n with
  | zero=>intro j d cur h1 h2; omega
  | succ n ih =>
    intro j d cur h1 h2 h3 h4
    show sh7 (q:Int) c H (Int.ofNat H.length) (j:Int) l cur dn f6 (f7 n)=_
    unfold sh7
    have br:∀ x:Slot,List.set cur q x=List.set sl q x:=fun x=>by
      by_cases hj:0 < j
      · rw [(h3 hj).1,List.set_set]
      · rw [h4 (by omega)]
    have hcl:cur.length=sl.length:=by
      by_cases hj:0 < j
      · rw [(h3 hj).1,List.length_set]
      · rw [h4 (by omega)]
    have hqc:q < cur.length:=by rw [hcl,h.ff.lp]; exact h.ff.hi
    by_cases hj:j < H.length
    · have hS := h.set c H[j]
      have hok:okD l (sl.set q ⟨(q:Int),c,H[j]⟩) dn (q:Int)=true:=by
        simp only [okD,Bool.and_eq_true]
        exact ⟨hS.okf,by rw [h.dl]; exact Nat.beq_refl _⟩
      have hfd:ia l (sl.set q ⟨(q:Int),c,H[j]⟩) dn (q:Int)=ci l (sl.set q ⟨(q:Int),c,H[j]⟩) dn q:=rfl
      rw [bw (by simp; omega),aZ hj,ac,ac,eb hj,aZ hqc,eb hqc,al hj,br,hok,hfd,bo j (by omega),bl hj]
      simp only [jN]
      cases hb:(ci l (sl.set q ⟨(q:Int),c,H[j]⟩) dn q == (0:Int)) with
      | true =>
        show qZ H[j] l (List.set cur q ⟨(q:Int),c,H[j]⟩) dn=qZ H[j] l (List.set sl q ⟨(q:Int),c,H[j]⟩) dn
        rw [br]
      | false =>
        exact ih (j+1) H[j] _ (by omega) hj (fun _=>⟨rfl,by rw [Nat.add_sub_cancel,al hj]⟩) (fun h=>by omega)
    · have e : j = H.length := by omega
      subst e
      obtain ⟨g1,g2⟩:=h3 hH
      rw [bp (by simp),List.drop_length,bV]
      show sh6 H l cur dn=_
      unfold sh6
      have hw:IntKind.wrap .i64 (Int.ofNat H.length - (1:Int))=((H.length - 1:Nat):Int):=by
        rw [bU (by simp; omega) (by simp; omega)]
        simp
        omega
      rw [hw,aZ (show H.length - 1 < H.length by omega),ac,eb (show H.length - 1 < H.length by omega),g2,g1]
      rfl
theorem f0_eq (i c:Int) (l:List Work) (sl:List Slot) (dn:List Bool) (h:okS l sl dn i=true):f0 i c l sl dn=qZ (aC l sl dn i c) l (List.set sl (Int.toNat i) ⟨i,c,aC l sl dn i c⟩) dn:=by
  obtain ⟨q,rfl,hS⟩:=qc h
  have hn:=hS.ff.n
  show sh0 (q:Int) c l sl dn (f2 100000)=_
  unfold sh0
  rw [aZ hS.ff.hi,ac,cS]
  have hwl:=hS.ff.wa
  refine (firstLoop l sl dn q hS c (List.getD l q aa).wa hwl (fun a ha=>by obtain ⟨u,h1,h2,_⟩:=hS.wd a ha; exact ⟨u,h1,h2⟩) 100000 0 0 (by omega) (by omega)).trans ?_
  rw [List.drop_zero]
  show f4 100000 (q:Int) c (cU l sl q) [cU l sl q] (Int.ofNat dn.length) ((0:Nat):Int) l sl dn=_
  rw [oW l sl dn q hS c _ 100000 0 _ (by have:=hS.dl; omega) (by omega) (by simp),Nat.sub_zero]
  show sh3 (q:Int) c (jM l sl dn (cU l sl q) l.length 0 [cU l sl q]) l sl dn (f7 100000)=_
  unfold sh3
  obtain ⟨k1,k2⟩:=nZ l sl dn (cU l sl q) l.length 0 [cU l sl q]
  rw [List.length_singleton] at k1 k2
  rw [bC (by omega)]
  obtain ⟨m1,m2⟩:=oV sl dn q (l:=l)
  exact ra l sl dn q hS c (fe l sl dn q) m1 (by omega) 100000 0 0 sl (by omega) (by omega) (fun h=>by omega) (fun _=>rfl)
theorem ok:CtxOk Try.prog X:=aU tab (spC faultDr.spOk (spC endc.spOk spN)) dpN
theorem okM:MOk Try.prog X:=bF _ (mpC (nY rfl ok) mpN)
theorem spec (i:Int) (crew:Int) (l:List Work) (sl:List Slot) (dn:List Bool) (h:(okS l sl dn i)=true):MCall Try.prog E 52 [(.ptr 1000000000 0),(.int .i64 i),(.int .i64 crew)] [(1000000000,(.box 1000000000 [(.lst .work l),(.ful 1000000001),(.ful 1000000002)])),(1000000001,(.rows .slot sl)),(1000000002,(.rows .bool dn))] (.int .i64 (aC l sl dn i crew)) [(1000000000,(.box 1000000000 [(.lst .work l),(.ful 1000000001),(.ful 1000000002)])),(1000000001,(.rows .slot (List.set sl (Int.toNat i) (⟨i,crew,aC l sl dn i crew⟩:Slot)))),(1000000002,(.rows .bool dn))] :=
  bG ok okM Try.func52 (by kernel_rfl) (by kernel_rfl) (by kernel_rfl) (by show 3≤115; decide) ((run i crew l sl dn).trans (f0_eq i crew l sl dn h))
noncomputable def sp:MSp U El:=fun args hs k=>match args,hs with
  | [.ptr q0 0,.int .i64 i,.int .i64 crew],[(q1,.box q2 [.lst .work l,.ful q3,.ful q4]),(q5,.rows .slot sl),(q6,.rows .bool dn)]=>chk (Nat.beq q0 1000000000&&(Nat.beq q1 1000000000&&(Nat.beq q2 1000000000&&(Nat.beq q3 1000000001&&(Nat.beq q4 1000000002&&(Nat.beq q5 1000000001&&(Nat.beq q6 1000000002&&true))))))) (chk (okS l sl dn i) (k (.int .i64 (aC l sl dn i crew)) [(1000000000,(.box 1000000000 [(.lst .work l),(.ful 1000000001),(.ful 1000000002)])),(1000000001,(.rows .slot (List.set sl (Int.toNat i) (⟨i,crew,aC l sl dn i crew⟩:Slot)))),(1000000002,(.rows .bool dn))]))
  | _,_=>none
theorem spOk:cJ Try.prog E 52 sp:=⟨Try.call52,fun args hs k r h=>by
  unfold sp at h
  split at h
  · obtain ⟨hq, hA⟩ := ab h
    clear h
    simp only [Bool.and_eq_true] at hq
    obtain ⟨e0,e1,e2,e3,e4,e5,e6,_⟩:=hq
    cases Nat.eq_of_beq_eq_true e0
    cases Nat.eq_of_beq_eq_true e1
    cases Nat.eq_of_beq_eq_true e2
    cases Nat.eq_of_beq_eq_true e3
    cases Nat.eq_of_beq_eq_true e4
    cases Nat.eq_of_beq_eq_true e5
    cases Nat.eq_of_beq_eq_true e6
    obtain ⟨h1,hB⟩:=ab hA
    exact ⟨_,_,spec _ _ _ _ _ h1,hB⟩
  · cases h⟩
theorem spDet:∀ args hs,∃ oo:Option (AV U El×ar U El),∀ k,sp args hs k=oo.bind fun p=>k p.1 p.2:=fun args hs=>by
  unfold sp
  split
  · exact aO (aO ⟨some (_,_),fun _=>rfl⟩)
  · exact ⟨none,fun _=>rfl⟩
end start
noncomputable def sK (l:List Work) (sl:List Slot) (dn:List Bool):R:=some ((.tup []),[(1000000000,(.box 1000000000 [(.lst .work l),(.ful 1000000001),(.ful 1000000002)])),(1000000001,(.rows .slot sl)),(1000000002,(.rows .bool dn))])
namespace place
noncomputable def bd:Code:=(Try.f45.body).getD .skip
noncomputable def X:Ctx U El:=⟨E,tds,zeros,eqs,aG [],100000,27,aD [],cg [(52,(gz start.sp))]⟩
noncomputable def nmR:Norm U:=⟨[],[],[1000000000,1000000001,1000000002],[],[(1000000000,1,.slot,1000000001),(1000000000,2,.bool,1000000002)],[],[]⟩
noncomputable def RR:ae U El:=fun st=>aM nmR st (dI [])
noncomputable def fr0 (i:Int) (crew:Int) (l:List Work) (sl:List Slot) (dn:List Bool):St U El:=⟨[(0,(.ptr 1000000000 0)),(1,(.int .i64 i)),(2,(.int .i64 crew))],[(1000000000,(.box 1000000000 [(.lst .work l),(.ful 1000000001),(.ful 1000000002)])),(1000000001,(.rows .slot sl)),(1000000002,(.rows .bool dn))]⟩
noncomputable def sh0 (i:Int) (crew:Int) (l:List Work) (sl:List Slot) (dn:List Bool):R :=
  chk (okS l sl dn i) (chk (inb i (List.length (List.set sl (Int.toNat i) (⟨i,crew,aC l sl dn i crew⟩:Slot)))) (chk (nlt (Int.toNat i) (List.length (List.set sl (Int.toNat i) (⟨i,crew,aC l sl dn i crew⟩:Slot)))&&true) (chk (inb i (List.length dn)) (chk (nlt (Int.toNat i) (List.length dn)&&true) (some ((.tup []),[(1000000000,(.box 1000000000 [(.lst .work l),(.ful 1000000001),(.ful 1000000002)])),(1000000001,(.rows .slot (List.set (List.set sl (Int.toNat i) (⟨i,crew,aC l sl dn i crew⟩:Slot)) (Int.toNat i) (⟨i,crew,(aC l sl dn i crew)⟩:Slot)))),(1000000002,(.rows .bool (List.set dn (Int.toNat i) true)))]))))))
theorem P0 (i crew l sl dn):ak X (cdp [] bd) .d (fr0 i crew l sl dn) RR (fun _ _=>none) RR=sh0 i crew l sl dn:=by kernel_rfl
noncomputable def f0 (i:Int) (crew:Int) (l:List Work) (sl:List Slot) (dn:List Bool):R:=sh0 i crew l sl dn
theorem T0 (i crew l sl dn):ak X bd .d (fr0 i crew l sl dn) RR (fun _ _=>none) RR=f0 i crew l sl dn:=by
  refine (P0 i crew l sl dn).trans ?_
  show _=sh0 i crew l sl dn
  rfl
theorem run (i crew l sl dn):jy X bd .d nmR [] [(1000000000,(.box 1000000000 [(.lst .work l),(.ful 1000000001),(.ful 1000000002)])),(1000000001,(.rows .slot sl)),(1000000002,(.rows .bool dn))] [(.ptr 1000000000 0),(.int .i64 i),(.int .i64 crew)]=f0 i crew l sl dn:=T0 i crew l sl dn
theorem f0_eq (i c:Int) (l:List Work) (sl:List Slot) (dn:List Bool) (h:okS l sl dn i=true):f0 i c l sl dn=sK l (List.set sl (Int.toNat i) ⟨i,c,aC l sl dn i c⟩) (List.set dn (Int.toNat i) true):=by
  obtain ⟨q,rfl,hS⟩:=qc h
  have hq:=hS.ff.hi
  show sh0 (q:Int) c l sl dn=_
  unfold sh0
  rw [h,List.length_set,ac,aZ (show q < sl.length by rw [hS.ff.lp]; exact hq),eb (show q < sl.length by rw [hS.ff.lp]; exact hq),aZ (show q < dn.length by rw [hS.dl]; exact hq),eb (show q < dn.length by rw [hS.dl]; exact hq)]
  show sK l (List.set (List.set sl q ⟨(q:Int),c,aC l sl dn (q:Int) c⟩) q ⟨(q:Int),c,aC l sl dn (q:Int) c⟩) (List.set dn q true)=_
  rw [List.set_set]
theorem ok:CtxOk Try.prog X:=aU tab spN dpN
theorem okM:MOk Try.prog X:=bF _ (mpC (cF ok start.spOk) mpN)
theorem spec (i:Int) (crew:Int) (l:List Work) (sl:List Slot) (dn:List Bool) (h:(okS l sl dn i)=true):MCall Try.prog E 45 [(.ptr 1000000000 0),(.int .i64 i),(.int .i64 crew)] [(1000000000,(.box 1000000000 [(.lst .work l),(.ful 1000000001),(.ful 1000000002)])),(1000000001,(.rows .slot sl)),(1000000002,(.rows .bool dn))] (.tup []) [(1000000000,(.box 1000000000 [(.lst .work l),(.ful 1000000001),(.ful 1000000002)])),(1000000001,(.rows .slot (List.set sl (Int.toNat i) (⟨i,crew,aC l sl dn i crew⟩:Slot)))),(1000000002,(.rows .bool (List.set dn (Int.toNat i) true)))] :=
  bG ok okM Try.func45 (by kernel_rfl) (by kernel_rfl) (by kernel_rfl) (by show 3≤27; decide) ((run i crew l sl dn).trans (f0_eq i crew l sl dn h))
noncomputable def sp:MSp U El:=fun args hs k=>match args,hs with
  | [.ptr q0 0,.int .i64 i,.int .i64 crew],[(q1,.box q2 [.lst .work l,.ful q3,.ful q4]),(q5,.rows .slot sl),(q6,.rows .bool dn)]=>chk (Nat.beq q0 1000000000&&(Nat.beq q1 1000000000&&(Nat.beq q2 1000000000&&(Nat.beq q3 1000000001&&(Nat.beq q4 1000000002&&(Nat.beq q5 1000000001&&(Nat.beq q6 1000000002&&true))))))) (chk (okS l sl dn i) (k (.tup []) [(1000000000,(.box 1000000000 [(.lst .work l),(.ful 1000000001),(.ful 1000000002)])),(1000000001,(.rows .slot (List.set sl (Int.toNat i) (⟨i,crew,aC l sl dn i crew⟩:Slot)))),(1000000002,(.rows .bool (List.set dn (Int.toNat i) true)))]))
  | _,_=>none
theorem spOk:cJ Try.prog E 45 sp:=⟨Try.call45,fun args hs k r h=>by
  unfold sp at h
  split at h
  · obtain ⟨hq, hA⟩ := ab h
    clear h
    simp only [Bool.and_eq_true] at hq
    obtain ⟨e0,e1,e2,e3,e4,e5,e6,_⟩:=hq
    cases Nat.eq_of_beq_eq_true e0
    cases Nat.eq_of_beq_eq_true e1
    cases Nat.eq_of_beq_eq_true e2
    cases Nat.eq_of_beq_eq_true e3
    cases Nat.eq_of_beq_eq_true e4
    cases Nat.eq_of_beq_eq_true e5
    cases Nat.eq_of_beq_eq_true e6
    obtain ⟨h1,hB⟩:=ab hA
    exact ⟨_,_,spec _ _ _ _ _ h1,hB⟩
  · cases h⟩
theorem spDet:∀ args hs,∃ oo:Option (AV U El×ar U El),∀ k,sp args hs k=oo.bind fun p=>k p.1 p.2:=fun args hs=>by
  unfold sp
  split
  · exact aO (aO ⟨some (_,_),fun _=>rfl⟩)
  · exact ⟨none,fun _=>rfl⟩
end place
noncomputable def oX (l:List Work) (sl:List Slot) (dn:List Bool) (nx:Int):List Int→Int→Int
  | [],m=>m
  | x :: t,m=>bif ilt (sx (aC l sl dn nx x) (aC l sl dn nx m)) 0 then oX l sl dn nx t x else oX l sl dn nx t m
noncomputable def nn (l:List Work) (sl:List Slot) (dn:List Bool) (nx:Int) (xs:List Int):Int:=oX l sl dn nx (xs.drop 1) (List.getD xs 0 d_int)
namespace draftOf
noncomputable def bd:Code:=(Try.f42.body).getD .skip
noncomputable def X:Ctx U El:=⟨E,tds,zeros,eqs,aG [],100000,12,aD [],fun _=>none⟩
noncomputable def nmR:Norm U:=⟨[],[2],[11,500001101,500001102],[],[(11,1,.slot,500001101),(11,2,.bool,500001102)],[],[]⟩
noncomputable def RR:ae U El:=fun st=>aM nmR st (dI [2])
noncomputable def fr0 (l:List Work):St U El:=⟨[(0,(.lst .work l))],[]⟩
noncomputable def sh0 (l:List Work):R :=
  chk (ile 0 (Int.ofNat (List.length l))&&ile (Int.ofNat (List.length l)) (Int.ofNat (List.length l))&&ile ((Int.ofNat (List.length l)) * 24) 140737488355328) (chk (ile 0 (Int.ofNat (List.length l))&&ile (Int.ofNat (List.length l)) (Int.ofNat (List.length l))&&ile ((Int.ofNat (List.length l)) * 1) 140737488355328) (some ((.ptr 11 0),[(11,(.box 0 [(.lst .work l),(.ful 500001101),(.ful 500001102)])),(500001101,(.rows .slot (List.replicate (Int.toNat (Int.ofNat (List.length l))) d_slot))),(500001102,(.rows .bool (List.replicate (Int.toNat (Int.ofNat (List.length l))) d_bool)))])))
theorem P0 (l):ak X (cdp [] bd) .d (fr0 l) RR (fun _ _=>none) RR=sh0 l:=by kernel_rfl
noncomputable def f0 (l:List Work):R:=sh0 l
theorem T0 (l):ak X bd .d (fr0 l) RR (fun _ _=>none) RR=f0 l:=by
  refine (P0 l).trans ?_
  show _=sh0 l
  rfl
theorem run (l):jy X bd .d nmR [2] [] [(.lst .work l)]=f0 l:=T0 l
theorem f0_eq (l:List Work) (h:nle (List.length l) 90000=true):f0 l=some ((.ptr 11 0),[(11,(.box 0 [(.lst .work l),(.ful 500001101),(.ful 500001102)])),(500001101,(.rows .slot (List.replicate l.length d_slot))),(500001102,(.rows .bool (List.replicate l.length d_bool)))]):=by
  have hl:=cn h
  show sh0 l=_
  unfold sh0
  rw [bD (show (0:Int)≤Int.ofNat l.length by simp),bD (Int.le_refl (Int.ofNat l.length)),bD (show Int.ofNat l.length * 24≤140737488355328 by simp; omega),bD (show Int.ofNat l.length * 1≤140737488355328 by simp; omega)]
  rfl
theorem ok:CtxOk Try.prog X:=aU tab spN dpN
theorem okM:MOk Try.prog X:=fun g sp h=>by cases h
theorem spec (l:List Work) (h:(nle (List.length l) 90000)=true):MCall Try.prog E 42 [(.lst .work l)] [] (.ptr 11 0) [(11,(.box 0 [(.lst .work (l)),(.ful 500001101),(.ful 500001102)])),(500001101,(.rows .slot (List.replicate (List.length l) d_slot))),(500001102,(.rows .bool (List.replicate (List.length l) d_bool)))] :=
  bG ok okM Try.func42 (by kernel_rfl) (by kernel_rfl) (by kernel_rfl) (by show 1≤12; decide) ((run l).trans (f0_eq l h))
noncomputable def sp:MSp U El:=fun args hs k=>match args,hs with
  | [.lst .work l],[]=>chk true (chk (nle (List.length l) 90000) (k (.ptr 11 0) [(11,(.box 0 [(.lst .work (l)),(.ful 500001101),(.ful 500001102)])),(500001101,(.rows .slot (List.replicate (List.length l) d_slot))),(500001102,(.rows .bool (List.replicate (List.length l) d_bool)))]))
  | _,_=>none
theorem spOk:cJ Try.prog E 42 sp:=⟨Try.call42,fun args hs k r h=>by
  unfold sp at h
  split at h
  · obtain ⟨_, hA⟩ := ab h
    obtain ⟨h1,hB⟩:=ab hA
    exact ⟨_,_,spec _ h1,hB⟩
  · cases h⟩
theorem spDet:∀ args hs,∃ oo:Option (AV U El×ar U El),∀ k,sp args hs k=oo.bind fun p=>k p.1 p.2:=fun args hs=>by
  unfold sp
  split
  · exact aO (aO ⟨some (_,_),fun _=>rfl⟩)
  · exact ⟨none,fun _=>rfl⟩
end draftOf
end Go.Proofs.Ythdklallcljhlaa

namespace Go.Proofs.Ythdklallcljhlaa
set_option linter.unusedSectionVars false
set_option linter.unusedSimpArgs false
set_option linter.unusedVariables false
set_option maxRecDepth 100000
noncomputable def iv (l:List Work) (dn:List Bool):Nat→Nat→Int→Int
  | 0,_,nx=>nx
  | n+1,k,nx=>bif bx l dn (k:Int) then (bif ilt nx 0 then iv l dn n (k+1) (k:Int) else bif ilt (List.getD l k aa).wd (List.getD l (Int.toNat nx) aa).wd then iv l dn n (k+1) (k:Int) else iv l dn n (k+1) nx) else iv l dn n (k+1) nx
noncomputable def jO (l:List Work) (dn:List Bool):Int:=iv l dn l.length 0 (-1)
noncomputable def qe (l:List Work) (sl:List Slot) (dn:List Bool):Int:=nn l sl dn (jO l dn) (List.getD l (Int.toNat (jO l dn)) aa).wc
noncomputable def rB (l:List Work) (sl:List Slot) (dn:List Bool):List Slot:=List.set sl (Int.toNat (jO l dn)) ⟨jO l dn,qe l sl dn,aC l sl dn (jO l dn) (qe l sl dn)⟩
noncomputable def dS (l:List Work):Nat→List Slot→List Bool→List Slot
  | 0,sl,_=>sl
  | n+1,sl,dn=>dS l n (rB l sl dn) (List.set dn (Int.toNat (jO l dn)) true)
noncomputable def iR (l:List Work) (crews:Int):List Slot:=bif !(aQ l crews) then [] else dS l l.length (List.replicate l.length d_slot) (List.replicate l.length d_bool)
theorem sL {n crews:Int} {dup:Bool} {w:Work} (h:wk n crews dup w=true):0 < w.wc.length:=by
  simp only [wk,Bool.and_eq_true,Bool.not_eq_true'] at h
  have:=beq_eq_false_iff_ne.1 h.2.2.2.1
  simp at this
  exact List.length_pos_iff.2 this
theorem qg {n crews:Int}:∀ {l seen:List Work},bH n crews seen l=true→∀ w∈l,0 < w.wc.length:=by
  intro l
  induction l with
  | nil=>intro seen _ w hw; cases hw
  | cons x l ih =>
    intro seen h w hw
    simp only [bH,Bool.and_eq_true] at h
    rcases List.mem_cons.1 hw with rfl | hw
    · exact sL h.1
    · exact ih h.2 w hw
structure GS (l:List Work) (sl:List Slot) (dn:List Bool):Prop where
  len:sl.length=l.length
  sw:∀ s∈sl,inb s.sw l.length=true
  good:kY l dn
theorem mq {l:List Work} {crews:Int} {sl:List Slot} {dn:List Bool} {q:Nat} (hv:okV l=true) (h:aQ l crews=true) (hg:GS l sl dn) (hq:q < l.length) (hr:bx l dn (q:Int)=true):SS l sl dn q:=by
  have hok:=oP (p:=sl) hv h hg.len hq
  obtain ⟨q',e,hf⟩:=kZ hok
  obtain rfl:q=q':=Int.ofNat.inj e
  obtain ⟨g1,g2⟩:=cT hr
  refine ⟨hf,hok,hg.good.1,hg.sw,g1,fun a ha => ?_⟩
  have hb:=hf.ain a ha
  simp only [inb,Bool.and_eq_true] at hb
  obtain ⟨u,rfl⟩:=Int.eq_ofNat_of_zero_le (b7 hb.1)
  have hu:=dJ hb.2
  have hd:=g2 _ ha
  rw [ac] at hd
  exact ⟨u,rfl,by simp at hu; omega,hd,fun e=>by rw [e,g1] at hd; cases hd⟩
def Pz (l:List Work) (dn:List Bool) (nx:Int):Prop:=nx = -1∨∃ q:Nat,nx=(q:Int)∧q < l.length∧bx l dn (q:Int)=true
theorem oY (l : List Work) (dn : List Bool) : ∀ (n k : Nat) (nx : Int), k + n = l.length → Pz l dn nx → Pz l dn (iv l dn n k nx) ∧ ((nx ≠ -1 ∨ ∃ j : Nat, k ≤ j ∧ j < l.length ∧ bx l dn (j : Int) = true) → iv l dn n k nx ≠ -1) := by
  intro n
  induction n with
  | zero =>
    intro k nx hk hp
    refine ⟨hp,fun h => ?_⟩
    rcases h with h | ⟨j,h1,h2,_⟩
    · exact h
    · omega
  | succ n ih =>
    intro k nx hk hp
    simp only [iv]
    cases hr:bx l dn (k:Int) with
    | true =>
      have hpk:Pz l dn (k:Int) := .inr ⟨k,rfl,by omega,hr⟩
      have a1:=ih (k+1) (k:Int) (by omega) hpk
      have a2:=ih (k+1) nx (by omega) hp
      rw [cond_true]
      cases hn:ilt nx 0 with
      | true=>exact ⟨a1.1,fun _=>a1.2 (.inl (by omega))⟩
      | false =>
        rw [cond_false]
        have hne:nx ≠ -1:=by have:=iI hn; omega
        cases ilt (List.getD l k aa).wd (List.getD l (Int.toNat nx) aa).wd with
        | true=>exact ⟨a1.1,fun _=>a1.2 (.inl (by omega))⟩
        | false=>exact ⟨a2.1,fun _=>a2.2 (.inl hne)⟩
    | false =>
      have a2:=ih (k+1) nx (by omega) hp
      rw [cond_false]
      refine ⟨a2.1,fun h=>a2.2 ?_⟩
      rcases h with h | ⟨j,h1,h2,h3⟩
      · exact .inl h
      · refine .inr ⟨j, ?_, h2, h3⟩
        by_cases e:j=k
        · subst e; rw [hr] at h3; cases h3
        · omega
theorem rb {l:List Work} {crews:Int} {sl:List Slot} {dn:List Bool} (hv:okV l=true) (h:aQ l crews=true) (hg:GS l sl dn) (hp:0 < bh dn):∃ q:Nat,jO l dn=(q:Int)∧q < l.length∧bx l dn (q:Int)=true:=by
  have hV:=aR h
  have hO:=bX hv hV.good
  obtain ⟨i,hi,h1,h2⟩:=nU (kq hV.topo) hg.good.1 (fun w hw=>((cX hO).2 w hw).2) hp
  have hr:bx l dn (i:Int)=true:=by
    simp only [bx,Bool.and_eq_true,Bool.not_eq_true',ac]
    refine ⟨h1,List.any_eq_false.2 fun a ha => ?_⟩
    rw [al hi] at ha
    have h3:=List.all_eq_true.1 h2 a ha
    have:aW dn a=false:=by unfold aW; rw [h3]; rfl
    rw [this]
    simp
  obtain ⟨g1,g2⟩:=oY l dn l.length 0 (-1) (by omega) (.inl rfl)
  rcases g1 with g1 | g1
  · exact absurd g1 (g2 (.inr ⟨i,by omega,hi,hr⟩))
  · exact g1
theorem gK {l:List Work} {sl:List Slot} {dn:List Bool} {q:Nat} (hg:GS l sl dn) (hq:q < l.length) (hr:bx l dn (q:Int)=true) (c z:Int):GS l (sl.set q ⟨(q:Int),c,z⟩) (dn.set q true)∧bh (dn.set q true)+1=bh dn:=by
  obtain ⟨g1,g2⟩:=cT hr
  refine ⟨⟨by rw [List.length_set]; exact hg.len,fun s hs => ?_,jH hg.good hq g1 (List.all_eq_true.2 fun a ha=>g2 a (by rw [al hq]; exact ha))⟩,dR dn q (by rw [hg.good.1]; exact hq) g1⟩
  rcases List.mem_or_eq_of_mem_set hs with h1 | rfl
  · exact hg.sw s h1
  · exact aZ hq
namespace cloneS
noncomputable def bd:Code:=(Try.f21.body).getD .skip
noncomputable def X:Ctx U El:=⟨E,tds,zeros,eqs,aG [],100000,8,aD [],fun _=>none⟩
noncomputable def nmR:Norm U:=⟨[(2,.slot)],[2],[2],[],[],[],[]⟩
noncomputable def RR:ae U El:=fun st=>aM nmR st (aK [2] [2])
noncomputable def fr0 (l:List Slot):St U El:=⟨[(0,(.lst .slot l))],[]⟩
noncomputable def sh0 (l:List Slot):R :=
  ah (nlt 0 (List.length l)) (chk (nle ((List.length ([]:List Slot)+List.length l) * 24) 140737488355328&&nle (List.length ([]:List Slot)+List.length l) 9223372036854775807) (some ((.ful 0),[(0,.rows .slot (([]:List Slot)++l))]))) (amb (some ((.ful 0),[(0,.rows .slot ([]:List Slot))])) (chk (nle ((List.length ([]:List Slot)+List.length l) * 24) 140737488355328&&nle (List.length ([]:List Slot)+List.length l) 9223372036854775807) (some ((.ful 0),[(0,.rows .slot (([]:List Slot)++l))]))))
theorem P0 (l):ak X (cdp [] bd) .d (fr0 l) RR (fun _ _=>none) RR=sh0 l:=by kernel_rfl
noncomputable def f0 (l:List Slot):R:=sh0 l
theorem T0 (l):ak X bd .d (fr0 l) RR (fun _ _=>none) RR=f0 l:=by
  refine (P0 l).trans ?_
  show _=sh0 l
  rfl
theorem run (l):bg X bd .d nmR [2] [2] [(.lst .slot l)]=f0 l:=T0 l
theorem f0_eq (l:List Slot) (h:(nle (List.length l) 90000)=true):f0 l=some ((.ful 0),[(0,.rows .slot l)]):=by
  have hl:=cn h
  show sh0 l=_
  unfold sh0
  have e1:nle ((List.length ([]:List Slot)+List.length l) * 24) 140737488355328=true:=bC (by simp; omega)
  have e2:nle (List.length ([]:List Slot)+List.length l) 9223372036854775807=true:=bC (by simp; omega)
  rw [e1,e2]
  cases l with
  | nil=>exact pf _
  | cons x l=>rfl
theorem ok:CtxOk Try.prog X:=aU tab spN dpN
theorem okM:MOk Try.prog X:=fun g sp h=>by cases h
theorem spec (l:List Slot) (h:(nle (List.length l) 90000)=true):az Try.prog E 21 [(.lst .slot l)] (.ful 0) [(0,.rows .slot (l))] :=
  aq ok okM Try.call21 Try.func21 (by kernel_rfl) (by kernel_rfl) (by kernel_rfl) (by show 1≤8; decide) (by decide) (by rfl) ((run l).trans (f0_eq l h))
noncomputable def sp:Sp U El:=fun args k=>match args with
  | [.lst .slot l]=>chk (nle (List.length l) 90000) (k (.ful 0) [(0,.rows .slot (l))])
  | _=>none
theorem spOk:SpOk Try.prog E 21 sp where
  det:=fun vs=>by
    unfold sp
    split
    · exact bz _ _ _
    · exact ⟨none,fun _=>rfl⟩
  ok:=fun vs k r h=>by
    unfold sp at h
    split at h
    · obtain ⟨h1, h2⟩ := ab h
      exact ⟨_,_,spec _ h1,h2⟩
    · cases h
end cloneS
end Go.Proofs.Ythdklallcljhlaa
