import Derived.Test.YthdimnlkcgchoaaGreatPO
namespace Go.Proofs.YthdimnlkcgchoaaGreat
set_option linter.all false
set_option maxRecDepth 100000
noncomputable def countP (l:List Rule) (n:Net) (s:List UInt8):Nat:=prodN ((padM l n s).map (·.length))
noncomputable def fewB (l:List Rule) (n:Net) (s:List UInt8):Bool:=nle (countP l n s) 10000
noncomputable def gapO (l:List Rule) (n:Net) (s:List UInt8) (l2:List Rule) (s2:List UInt8) (lA:List Node):Option Nat:=firstN (fun k=>!(someB l2 s2 lA (corner (padM l n s) k))) (countP l n s) 0
noncomputable def gapL (l:List Rule) (n:Net) (s:List UInt8) (l2:List Rule) (s2:List UInt8) (lA:List Node):List Int:=match gapO l n s l2 s2 lA with
 | some k=>corner (padM l n s) k
 | none=>[]
noncomputable def cornOk (l:List Rule) (n:Net) (s:List UInt8) (l2:List Rule) (lA:List Node):Bool:=nle l2.length 90000&&List.all l2 (hasLevR lA (List.replicate n.nds.length 0))
theorem hasLevR_len {nds:List Node} {v w:List Int} (h:v.length=w.length) (r:Rule):hasLevR nds v r=hasLevR nds w r:=by
 unfold hasLevR
 have:hasLev nds v=hasLev nds w:=by funext c; unfold hasLev hasLevN; rw [h]
 rw [this]
theorem cornOk_at {l:List Rule} {n:Net} {s:List UInt8} {l2:List Rule} {lA:List Node} (h:cornOk l n s l2 lA=true) {v:List Int} (hv:v.length=n.nds.length):(nle (List.length l2) 90000&&List.all l2 (hasLevR lA v))=true:=by
 unfold cornOk at h
 have:hasLevR lA v=hasLevR lA (List.replicate n.nds.length 0):=by funext r; exact hasLevR_len (by simp [hv]) r
 rw [this]; exact h
theorem poss_slo (x:Node):(possS x).slo=x.ni:=by unfold possS; cases x.nk == 3<;>rfl
theorem compA_len:∀ (l:List Int) (p:Int),(compA p l).length≤l.length:=by
  intro l
  induction l with
  | nil=>intro p; simp [compA]
  | cons x l ih =>
    intro p
    unfold compA
    cases x == p
    · simp only [cond_false,List.length_cons]; have:=ih x; omega
    · simp only [cond_true,List.length_cons]; have:=ih p; omega
theorem compactL_len (l:List Int):(compactL l).length≤l.length:=by
 cases l with
 | nil=>simp [compactL]
 | cons x l=>have:=compA_len l x; simp [compactL,this]
structure Mk (nds:List Node) (m ms:List (List Int)):Prop where
 h1:m.length=nds.length
 h2:ms.length=nds.length
 h3:∀ (i:Nat) (a:i < m.length) (b:i < ms.length) (c:i < nds.length),(m[i]=[]∧ms[i]=[nds[i].ni])∨(m[i]≠[]∧m[i]=ms[i])
 h4:∀ (i:Nat) (a:i < m.length),m[i].length≤100000
theorem mk_of {l:List Rule} {n:Net} {s:List UInt8} (hr:rulesB l=true):Mk n.nds (marksC l n s) (padM l n s) where
 h1:=by simp [marksC]
 h2:=by simp [padM]
 h3:=fun i a b c=>by
  simp only [marksC,padM,List.getElem_map]
  have:=marks_pad n.nds[i] s l
  rw [poss_slo] at this
  exact this
 h4:=fun i a=>by
  simp only [marksC,List.getElem_map]
  obtain ⟨g1,g2⟩:=rulesB_len hr
  have e1:=compactL_len (sortI (rawM (n.nds[i]'(by simpa [marksC] using a)) s l))
  have e2:(sortI (rawM (n.nds[i]'(by simpa [marksC] using a)) s l)).length=(rawM (n.nds[i]'(by simpa [marksC] using a)) s l).length:=List.length_mergeSort _
  have e3:=rawM_len (n.nds[i]'(by simpa [marksC] using a)) s l (fun r hr'=>(ruleB_len (g2 r hr')).1)
  omega
theorem Mk.len {nds:List Node} {m ms:List (List Int)} (h:Mk nds m ms) (i:Nat) (a:i < m.length) (b:i < ms.length):0 < ms[i].length∧ms[i].length≤100000∧(bif ilt (1:Int) (Int.ofNat m[i].length) then Int.ofNat m[i].length else (1:Int))=(ms[i].length:Int):=by
 have hb:=h.h4 i a
 rcases h.h3 i a b (by rw [← h.h1]; exact a) with ⟨e1,e2⟩ | ⟨e1,e2⟩
 ·rw [e1,e2]; exact ⟨by simp,by simp,rfl⟩
 ·have:0 < m[i].length:=List.length_pos_iff.2 e1
  rw [← e2]
  refine ⟨this,hb,?_⟩
  by_cases e:(1:Int) < Int.ofNat m[i].length
  ·rw [iltT e]; rfl
  ·rw [iltF e,cond_false]; simp at e; omega
theorem prodN_pos:∀ {L:List Nat},(∀ a∈L,0 < a)→0 < prodN L:=by
 intro L
 induction L with
 | nil=>intro _; simp [prodN]
 | cons a L ih=>intro h; exact Nat.mul_pos (h a (by simp)) (ih fun x hx=>h x (by simp [hx]))
noncomputable def digN (ms:List (List Int)) (k:Nat):List Nat:=(digR (ms.map (·.length)).reverse k).reverse
noncomputable def digI (ms:List (List Int)) (k:Nat):List Int:=(digN ms k).map Int.ofNat
theorem digN_len (ms:List (List Int)) (k:Nat):(digN ms k).length=ms.length:=by simp [digN,digR_length]
theorem digN_lt {ms:List (List Int)} (hm:∀ (i:Nat) (h:i < ms.length),0 < ms[i].length) (k i:Nat) (a:i < (digN ms k).length) (b:i < ms.length):(digN ms k)[i] < ms[i].length:=by
 have hp:∀ x∈(ms.map (·.length)).reverse,0 < x:=fun x hx=>by
  simp only [List.mem_reverse,List.mem_map] at hx
  obtain ⟨y,hy,rfl⟩:=hx
  obtain ⟨j,hj,rfl⟩:=List.getElem_of_mem hy
  exact hm j hj
 have hl:=digR_length (ms.map (·.length)).reverse k
 simp only [List.length_reverse,List.length_map] at hl
 refine digR_lt _ k hp (ms.length - 1 - i) _ _ ?_ ?_
 ·have:(digN ms k)[i]? = some (digN ms k)[i]:=List.getElem?_eq_getElem a
  conv at this=>lhs; rw [digN,List.getElem?_reverse (by rw [hl]; exact b),hl]
  exact this
 ·rw [List.getElem?_reverse (by simp; omega)]
  simp only [List.length_map]
  rw [show ms.length - 1 - (ms.length - 1 - i)=i by omega,List.getElem?_map,List.getElem?_eq_getElem b]
  rfl
theorem digI_zero (ms:List (List Int)):digI ms 0=List.replicate ms.length 0:=by
 simp [digI,digN,digR_zero]
namespace comp1
noncomputable def bd:Code:=(Tryz.f72.body).getD .skip
noncomputable def X:Ctx U El:=⟨E,tds,zeros,eqs,specOf [(61,cc11C.sp)],100000,15,dspecOf [],fun _=>none,fun _=>none⟩
noncomputable def nmR:Norm U:=⟨[],[7],[1000000001,1000000002,1000000003,1000000004,1000000005],[],[],[],[(1000000005,0,.int)]⟩
noncomputable def RR:Kont U El:=fun st=>normK nmR st (retM [7])
noncomputable def nm1:Norm U:=⟨[],[4],[1000000001,1000000002,1000000003,1000000004,1000000005],[],[],[],[(1000000001,0,.rule),(1000000003,0,.node),(1000000003,1,.link),(1000000005,0,.int)]⟩
abbrev Y1:=(List Rule)→(List UInt8)→(List Node)→(List Lnk)→Bool→(List Int)→R
noncomputable def fr0 (v:List Int) (l:List Rule) (s:List UInt8) (nds:List Node) (lks:List Lnk) (cm:Bool) (gap:List Int):St U El:=⟨[(0,(.ful 1000000000)),(1,(.ptr 1000000001 0)),(2,(.ptr 1000000002 0)),(3,(.ptr 1000000003 0)),(4,(.ptr 1000000004 0)),(5,(.ptr 1000000005 0))],[(1000000000,(.rows .int v)),(1000000001,(.box 1000000001 [(.lst .rule l)])),(1000000002,(.box 1000000002 [(.str s)])),(1000000003,(.box 1000000003 [(.lst .node nds),(.lst .link lks)])),(1000000004,(.box 1000000004 [(.bool cm)])),(1000000005,(.box 1000000005 [(.lst .int gap)]))]⟩
noncomputable def fr1 (bA:List Rule) (aA:List UInt8) (cA:List Node) (qA:List Lnk) (jA:Bool) (yA:List Int):St U El:=⟨[(4,(.ptr 1000000004 0))],[(1000000001,(.box 1000000001 [(.lst .rule bA)])),(1000000002,(.box 1000000002 [(.str aA)])),(1000000003,(.box 1000000003 [(.lst .node cA),(.lst .link qA)])),(1000000004,(.box 1000000004 [(.bool jA)])),(1000000005,(.box 1000000005 [(.lst .int yA)]))]⟩
noncomputable def sh0 (v:List Int) (l:List Rule) (s:List UInt8) (nds:List Node) (lks:List Lnk) (cm:Bool) (gap:List Int) (k1:Y1):R :=
 chk ((nle (List.length l) 90000&&List.all l (hasLevR nds v))) (condB (!(List.any l (fitsR s nds v))) (k1 l s nds lks (List.any l (fitsR s nds v)) v) (k1 l s nds lks (List.any l (fitsR s nds v)) gap))
noncomputable def sh1 (bA:List Rule) (aA:List UInt8) (cA:List Node) (qA:List Lnk) (jA:Bool) (yA:List Int):R :=
 some ((.bool jA),[(1000000001,(.box 1000000001 [(.lst .rule bA)])),(1000000002,(.box 1000000002 [(.str aA)])),(1000000003,(.box 1000000003 [(.lst .node cA),(.lst .link qA)])),(1000000004,(.box 1000000004 [(.bool jA)])),(1000000005,(.box 1000000005 [(.lst .int yA)]))])
noncomputable def ct1:Kont U El:=fun st=>exec X (cdp [1,1,1] bd) .d st RR (fun _ _=>none) RR
theorem P0 (v l s nds lks cm gap):exec X (cdp [] bd) (.seq none .d (.seq none .d (.seq (some nm1) .d .d))) (fr0 v l s nds lks cm gap) RR (fun _ _=>none) RR=sh0 v l s nds lks cm gap (fun y0 y1 y2 y3 y4 y5=>(hid ct1) (fr1 y0 y1 y2 y3 y4 y5)):=by kernel_rfl
theorem P1 (bA aA cA qA jA yA):ct1 (fr1 bA aA cA qA jA yA)=sh1 bA aA cA qA jA yA:=by kernel_rfl
noncomputable def f1 (bA:List Rule) (aA:List UInt8) (cA:List Node) (qA:List Lnk) (jA:Bool) (yA:List Int):R:=sh1 bA aA cA qA jA yA
noncomputable def f0 (v:List Int) (l:List Rule) (s:List UInt8) (nds:List Node) (lks:List Lnk) (cm:Bool) (gap:List Int):R:=sh0 v l s nds lks cm gap f1
theorem T1 (bA aA cA qA jA yA):(hid ct1) (fr1 bA aA cA qA jA yA)=f1 bA aA cA qA jA yA:=by
 refine (congrFun (hid_eq _) _).trans <| (P1 bA aA cA qA jA yA).trans ?_
 show _=sh1 bA aA cA qA jA yA
 rfl
theorem T0 (v l s nds lks cm gap):exec X bd (.seq none .d (.seq none .d (.seq (some nm1) .d .d))) (fr0 v l s nds lks cm gap) RR (fun _ _=>none) RR=f0 v l s nds lks cm gap:=by
 refine (P0 v l s nds lks cm gap).trans ?_
 show _=sh0 v l s nds lks cm gap f1
 simp only [T1]
theorem run (v l s nds lks cm gap):runM X bd (.seq none .d (.seq none .d (.seq (some nm1) .d .d))) nmR [7] [(1000000000,(.rows .int v)),(1000000001,(.box 1000000001 [(.lst .rule l)])),(1000000002,(.box 1000000002 [(.str s)])),(1000000003,(.box 1000000003 [(.lst .node nds),(.lst .link lks)])),(1000000004,(.box 1000000004 [(.bool cm)])),(1000000005,(.box 1000000005 [(.lst .int gap)]))] [(.ful 1000000000),(.ptr 1000000001 0),(.ptr 1000000002 0),(.ptr 1000000003 0),(.ptr 1000000004 0),(.ptr 1000000005 0)]=f0 v l s nds lks cm gap:=T0 v l s nds lks cm gap
theorem f0_eq (v:List Int) (l:List Rule) (s:List UInt8) (nds:List Node) (lks:List Lnk) (cm:Bool) (gap:List Int) (h:(nle (List.length l) 90000&&List.all l (hasLevR nds v))=true) :
  f0 v l s nds lks cm gap=some (.bool (someB l s nds v),[(1000000001,.box 1000000001 [.lst .rule l]),(1000000002,.box 1000000002 [.str s]),(1000000003,.box 1000000003 [.lst .node nds,.lst .link lks]),(1000000004,.box 1000000004 [.bool (someB l s nds v)]),(1000000005,.box 1000000005 [.lst .int (bif someB l s nds v then gap else v)])]):=by
 show sh0 v l s nds lks cm gap f1=_
 unfold sh0
 rw [h]
 unfold someB
 cases List.any l (fitsR s nds v)<;>rfl
theorem ok:CtxOk Tryz.prog X:=ctxOk tab (spC cc11C.spOk spN) dpN
theorem okM:MOk Tryz.prog X:=fun g sp h=>by cases h
theorem spec (v:List Int) (l:List Rule) (s:List UInt8) (nds:List Node) (lks:List Lnk) (cm:Bool) (gap:List Int) (h:((nle (List.length l) 90000&&List.all l (hasLevR nds v)))=true):MCall Tryz.prog E 72 [(.ful 1000000000),(.ptr 1000000001 0),(.ptr 1000000002 0),(.ptr 1000000003 0),(.ptr 1000000004 0),(.ptr 1000000005 0)] [(1000000000,(.rows .int v)),(1000000001,(.box 1000000001 [(.lst .rule l)])),(1000000002,(.box 1000000002 [(.str s)])),(1000000003,(.box 1000000003 [(.lst .node nds),(.lst .link lks)])),(1000000004,(.box 1000000004 [(.bool cm)])),(1000000005,(.box 1000000005 [(.lst .int gap)]))] (.bool (someB l s nds v)) [(1000000001,(.box 1000000001 [(.lst .rule l)])),(1000000002,(.box 1000000002 [(.str s)])),(1000000003,(.box 1000000003 [(.lst .node nds),(.lst .link lks)])),(1000000004,(.box 1000000004 [(.bool (someB l s nds v))])),(1000000005,(.box 1000000005 [(.lst .int ((bif someB l s nds v then gap else v)))]))] :=
 runM_sound ok okM Tryz.func72 (by kernel_rfl) (by kernel_rfl) (by kernel_rfl) (by show 6≤15; decide) ((run v l s nds lks cm gap).trans (f0_eq v l s nds lks cm gap h))
noncomputable def sp:MSp U El:=fun args hs k=>match args,hs with
 | [.ful q0,.ptr q1 0,.ptr q2 0,.ptr q3 0,.ptr q4 0,.ptr q5 0],[(q6,.rows .int v),(q7,.box q8 [.lst .rule l]),(q9,.box q10 [.str s]),(q11,.box q12 [.lst .node nds,.lst .link lks]),(q13,.box q14 [.bool cm]),(q15,.box q16 [.lst .int gap])]=>chk (Nat.beq q0 1000000000&&(Nat.beq q1 1000000001&&(Nat.beq q2 1000000002&&(Nat.beq q3 1000000003&&(Nat.beq q4 1000000004&&(Nat.beq q5 1000000005&&(Nat.beq q6 1000000000&&(Nat.beq q7 1000000001&&(Nat.beq q8 1000000001&&(Nat.beq q9 1000000002&&(Nat.beq q10 1000000002&&(Nat.beq q11 1000000003&&(Nat.beq q12 1000000003&&(Nat.beq q13 1000000004&&(Nat.beq q14 1000000004&&(Nat.beq q15 1000000005&&(Nat.beq q16 1000000005&&true))))))))))))))))) (chk ((nle (List.length l) 90000&&List.all l (hasLevR nds v))) (k (.bool (someB l s nds v)) [(1000000001,(.box 1000000001 [(.lst .rule l)])),(1000000002,(.box 1000000002 [(.str s)])),(1000000003,(.box 1000000003 [(.lst .node nds),(.lst .link lks)])),(1000000004,(.box 1000000004 [(.bool (someB l s nds v))])),(1000000005,(.box 1000000005 [(.lst .int ((bif someB l s nds v then gap else v)))]))]))
 | _,_=>none
theorem spOk:MSpOk Tryz.prog E 72 sp:=⟨Tryz.call72,fun args hs k r h=>by
 unfold sp at h
 split at h
 ·obtain ⟨hq,hA⟩:=chk_some h
  clear h
  simp only [Bool.and_eq_true] at hq
  obtain ⟨e0,e1,e2,e3,e4,e5,e6,e7,e8,e9,e10,e11,e12,e13,e14,e15,e16,_⟩:=hq
  cases Nat.eq_of_beq_eq_true e0
  cases Nat.eq_of_beq_eq_true e1
  cases Nat.eq_of_beq_eq_true e2
  cases Nat.eq_of_beq_eq_true e3
  cases Nat.eq_of_beq_eq_true e4
  cases Nat.eq_of_beq_eq_true e5
  cases Nat.eq_of_beq_eq_true e6
  cases Nat.eq_of_beq_eq_true e7
  cases Nat.eq_of_beq_eq_true e8
  cases Nat.eq_of_beq_eq_true e9
  cases Nat.eq_of_beq_eq_true e10
  cases Nat.eq_of_beq_eq_true e11
  cases Nat.eq_of_beq_eq_true e12
  cases Nat.eq_of_beq_eq_true e13
  cases Nat.eq_of_beq_eq_true e14
  cases Nat.eq_of_beq_eq_true e15
  cases Nat.eq_of_beq_eq_true e16
  obtain ⟨h1,hB⟩:=chk_some hA
  exact ⟨_,_,spec _ _ _ _ _ _ _ h1,hB⟩
 ·cases h⟩
theorem spDet:∀ args hs,∃ oo:Option (AV U El×Heap U El),∀ k,sp args hs k=oo.bind fun p=>k p.1 p.2:=fun args hs=>by
 unfold sp
 split
 ·exact det_chkM (det_chkM ⟨some (_,_),fun _=>rfl⟩)
 ·exact ⟨none,fun _=>rfl⟩
end comp1
namespace cornersC
noncomputable def bd:Code:=(Tryz.f71.body).getD .skip
noncomputable def X:Ctx U El:=⟨E,tds,zeros,eqs,specOf [(119,marks.sp)],100000,109,dspecOf [],mspecOf [(72,(mcSp comp1.sp))],fun _=>none⟩
noncomputable def nmR:Norm U:=⟨[],[8],[1000000000,1000000001,1000000002,1000000003,1000000004],[],[],[],[(1000000004,0,.int)]⟩
noncomputable def RR:Kont U El:=fun st=>normK nmR st (retM [8])
noncomputable def nm1:Norm U:=⟨[(9,.ints)],[3,5,9,10],[9,5,1000000000,1000000001,1000000002,1000000003,1000000004],[],[],[],[(5,0,.node),(5,1,.link),(1000000000,0,.rule),(1000000002,0,.node),(1000000002,1,.link)]⟩
noncomputable def nm2:Norm U:=⟨[(9,.ints)],[3,5,9,10,22,23,24],[9,5,1000000000,1000000001,1000000002,1000000003,1000000004],[],[],[],[(5,0,.node),(5,1,.link),(1000000000,0,.rule),(1000000002,0,.node),(1000000002,1,.link)]⟩
noncomputable def nm3:Norm U:=⟨[],[],[1000000000,1000000001,1000000002,1000000003,1000000004],[],[],[],[(1000000000,0,.rule),(1000000002,0,.node),(1000000002,1,.link),(1000000004,0,.int)]⟩
noncomputable def nm4:Norm U:=⟨[(9,.ints),(13,.int)],[3,5,9,13,39,40],[9,13,5,1000000000,1000000001,1000000002,1000000003,1000000004],[],[],[],[(5,0,.node),(5,1,.link),(1000000000,0,.rule),(1000000002,0,.node),(1000000002,1,.link),(1000000004,0,.int)]⟩
noncomputable def nm5:Norm U:=⟨[(9,.ints),(13,.int)],[3,5,9,13,39,40],[9,13,5,1000000000,1000000001,1000000002,1000000003,1000000004],[],[],[],[(5,0,.node),(5,1,.link),(1000000000,0,.rule),(1000000002,0,.node),(1000000002,1,.link),(1000000004,0,.int)]⟩
noncomputable def nm6:Norm U:=⟨[(9,.ints),(13,.int),(14,.int)],[3,5,9,13,14,39,40],[9,13,14,5,1000000000,1000000001,1000000002,1000000003,1000000004],[],[],[],[(5,0,.node),(5,1,.link),(1000000000,0,.rule),(1000000002,0,.node),(1000000002,1,.link),(1000000004,0,.int)]⟩
noncomputable def nm7:Norm U:=⟨[(9,.ints),(13,.int),(14,.int)],[3,5,9,13,14,39,40,46,47,48],[9,13,14,5,1000000000,1000000001,1000000002,1000000003,1000000004],[],[],[],[(5,0,.node),(5,1,.link),(1000000000,0,.rule),(1000000002,0,.node),(1000000002,1,.link),(1000000004,0,.int)]⟩
noncomputable def nm8:Norm U:=⟨[(9,.ints),(13,.int),(14,.int)],[3,5,9,13,14,39,40,46,47,48],[9,13,14,5,1000000000,1000000001,1000000002,1000000003,1000000004],[],[],[],[(5,0,.node),(5,1,.link),(1000000000,0,.rule),(1000000002,0,.node),(1000000002,1,.link),(1000000004,0,.int)]⟩
noncomputable def nm9:Norm U:=⟨[(9,.ints),(13,.int)],[3,5,9,13,17,39,40],[9,13,5,1000000000,1000000001,1000000002,1000000003,1000000004],[],[],[],[(5,0,.node),(5,1,.link),(1000000000,0,.rule),(1000000002,0,.node),(1000000002,1,.link),(1000000004,0,.int)]⟩
abbrev Y1:=(List (List Int))→Int→(List Node)→(List Lnk)→(List Rule)→(List UInt8)→(List Node)→(List Lnk)→Bool→R
abbrev Y2:=(List (List Int))→Int→Int→Int→(List Node)→(List Lnk)→(List Rule)→(List UInt8)→(List Node)→(List Lnk)→Bool→R
abbrev Y3:=(List Rule)→(List UInt8)→(List Node)→(List Lnk)→Bool→(List Int)→R
abbrev Y4:=(List (List Int))→(List Int)→Int→Int→(List Node)→(List Lnk)→(List Rule)→(List UInt8)→(List Node)→(List Lnk)→Bool→(List Int)→R
abbrev Y5:=(List (List Int))→(List Int)→Int→Int→(List Node)→(List Lnk)→(List Rule)→(List UInt8)→(List Node)→(List Lnk)→Bool→(List Int)→R
abbrev Y6:=(List (List Int))→(List Int)→(List Int)→Int→Int→(List Node)→(List Lnk)→(List Rule)→(List UInt8)→(List Node)→(List Lnk)→Bool→(List Int)→R
abbrev Y7:=(List (List Int))→(List Int)→(List Int)→Int→Int→(List Node)→Int→Int→(List Node)→(List Lnk)→(List Rule)→(List UInt8)→(List Node)→(List Lnk)→Bool→(List Int)→R
abbrev Y8:=(List (List Int))→(List Int)→(List Int)→Int→Int→(List Node)→Int→Int→(List Node)→(List Lnk)→(List Rule)→(List UInt8)→(List Node)→(List Lnk)→Bool→(List Int)→R
abbrev Y9:=(List (List Int))→(List Int)→Int→Int→Int→(List Node)→(List Lnk)→(List Rule)→(List UInt8)→(List Node)→(List Lnk)→Bool→(List Int)→R
noncomputable def fr0 (l:List Rule) (n:Net) (s:List UInt8) (l2:List Rule) (s2:List UInt8) (lA:List Node) (pA:List Lnk) (cm:Bool):St U El:=⟨[(0,(.lst .rule l)),(1,(.agg [(.lst .node n.nds),(.lst .link n.lks)])),(2,(.str s)),(3,(.fn 72 [] [(.ptr 1000000000 0),(.ptr 1000000001 0),(.ptr 1000000002 0),(.ptr 1000000003 0),(.ptr 1000000004 0)]))],[(1000000000,(.box 1000000000 [(.lst .rule l2)])),(1000000001,(.box 1000000001 [(.str s2)])),(1000000002,(.box 1000000002 [(.lst .node lA),(.lst .link pA)])),(1000000003,(.box 1000000003 [(.bool cm)])),(1000000004,(.box 1000000004 [.nils]))]⟩
noncomputable def fr1 (m9:List (List Int)) (mA:Int) (gA:List Node) (iA:List Lnk) (dA:List Rule) (bA:List UInt8) (aA:List Node) (eA:List Lnk) (cA:Bool):St U El:=⟨[(3,(.fn 72 [] [(.ptr 1000000000 0),(.ptr 1000000001 0),(.ptr 1000000002 0),(.ptr 1000000003 0),(.ptr 1000000004 0)])),(5,(.ptr 5 0)),(9,(.ful 9)),(10,(.int .i64 mA))],[(9,(.rows .ints m9)),(5,(.box 0 [(.lst .node gA),(.lst .link iA)])),(1000000000,(.box 1000000000 [(.lst .rule dA)])),(1000000001,(.box 1000000001 [(.str bA)])),(1000000002,(.box 1000000002 [(.lst .node aA),(.lst .link eA)])),(1000000003,(.box 1000000003 [(.bool cA)])),(1000000004,(.box 1000000004 [.nils]))]⟩
noncomputable def fr2 (m9:List (List Int)) (mA:Int) (bB:Int) (vA:Int) (gA:List Node) (iA:List Lnk) (dA:List Rule) (bA:List UInt8) (aA:List Node) (eA:List Lnk) (cA:Bool):St U El:=⟨[(3,(.fn 72 [] [(.ptr 1000000000 0),(.ptr 1000000001 0),(.ptr 1000000002 0),(.ptr 1000000003 0),(.ptr 1000000004 0)])),(5,(.ptr 5 0)),(9,(.ful 9)),(10,(.int .i64 mA)),(22,(.ful 9)),(23,(.int .i64 bB)),(24,(.int .i64 vA))],[(9,(.rows .ints m9)),(5,(.box 0 [(.lst .node gA),(.lst .link iA)])),(1000000000,(.box 1000000000 [(.lst .rule dA)])),(1000000001,(.box 1000000001 [(.str bA)])),(1000000002,(.box 1000000002 [(.lst .node aA),(.lst .link eA)])),(1000000003,(.box 1000000003 [(.bool cA)])),(1000000004,(.box 1000000004 [.nils]))]⟩
noncomputable def fr3 (dA:List Rule) (bA:List UInt8) (aA:List Node) (eA:List Lnk) (cA:Bool) (jA:List Int):St U El:=⟨[],[(1000000000,(.box 1000000000 [(.lst .rule dA)])),(1000000001,(.box 1000000001 [(.str bA)])),(1000000002,(.box 1000000002 [(.lst .node aA),(.lst .link eA)])),(1000000003,(.box 1000000003 [(.bool cA)])),(1000000004,(.box 1000000004 [(.lst .int jA)]))]⟩
noncomputable def fr4 (m9:List (List Int)) (kA:List Int) (nA:Int) (oA:Int) (gA:List Node) (iA:List Lnk) (dA:List Rule) (bA:List UInt8) (aA:List Node) (eA:List Lnk) (cA:Bool) (jA:List Int):St U El:=⟨[(3,(.fn 72 [] [(.ptr 1000000000 0),(.ptr 1000000001 0),(.ptr 1000000002 0),(.ptr 1000000003 0),(.ptr 1000000004 0)])),(5,(.ptr 5 0)),(9,(.ful 9)),(13,(.ful 13)),(39,(.int .i64 nA)),(40,(.int .i64 oA))],[(9,(.rows .ints m9)),(13,(.rows .int kA)),(5,(.box 0 [(.lst .node gA),(.lst .link iA)])),(1000000000,(.box 1000000000 [(.lst .rule dA)])),(1000000001,(.box 1000000001 [(.str bA)])),(1000000002,(.box 1000000002 [(.lst .node aA),(.lst .link eA)])),(1000000003,(.box 1000000003 [(.bool cA)])),(1000000004,(.box 1000000004 [(.lst .int jA)]))]⟩
noncomputable def fr5 (m9:List (List Int)) (kA:List Int) (nA:Int) (oA:Int) (gA:List Node) (iA:List Lnk) (dA:List Rule) (bA:List UInt8) (aA:List Node) (eA:List Lnk) (cA:Bool) (jA:List Int):St U El:=⟨[(3,(.fn 72 [] [(.ptr 1000000000 0),(.ptr 1000000001 0),(.ptr 1000000002 0),(.ptr 1000000003 0),(.ptr 1000000004 0)])),(5,(.ptr 5 0)),(9,(.ful 9)),(13,(.ful 13)),(39,(.int .i64 nA)),(40,(.int .i64 oA))],[(9,(.rows .ints m9)),(13,(.rows .int kA)),(5,(.box 0 [(.lst .node gA),(.lst .link iA)])),(1000000000,(.box 1000000000 [(.lst .rule dA)])),(1000000001,(.box 1000000001 [(.str bA)])),(1000000002,(.box 1000000002 [(.lst .node aA),(.lst .link eA)])),(1000000003,(.box 1000000003 [(.bool cA)])),(1000000004,(.box 1000000004 [(.lst .int jA)]))]⟩
noncomputable def fr6 (m9:List (List Int)) (kA:List Int) (fA:List Int) (nA:Int) (oA:Int) (gA:List Node) (iA:List Lnk) (dA:List Rule) (bA:List UInt8) (aA:List Node) (eA:List Lnk) (cA:Bool) (jA:List Int):St U El:=⟨[(3,(.fn 72 [] [(.ptr 1000000000 0),(.ptr 1000000001 0),(.ptr 1000000002 0),(.ptr 1000000003 0),(.ptr 1000000004 0)])),(5,(.ptr 5 0)),(9,(.ful 9)),(13,(.ful 13)),(14,(.ful 14)),(39,(.int .i64 nA)),(40,(.int .i64 oA))],[(9,(.rows .ints m9)),(13,(.rows .int kA)),(14,(.rows .int fA)),(5,(.box 0 [(.lst .node gA),(.lst .link iA)])),(1000000000,(.box 1000000000 [(.lst .rule dA)])),(1000000001,(.box 1000000001 [(.str bA)])),(1000000002,(.box 1000000002 [(.lst .node aA),(.lst .link eA)])),(1000000003,(.box 1000000003 [(.bool cA)])),(1000000004,(.box 1000000004 [(.lst .int jA)]))]⟩
noncomputable def fr7 (m9:List (List Int)) (kA:List Int) (fA:List Int) (nA:Int) (oA:Int) (tA:List Node) (uA:Int) (rA:Int) (gA:List Node) (iA:List Lnk) (dA:List Rule) (bA:List UInt8) (aA:List Node) (eA:List Lnk) (cA:Bool) (jA:List Int):St U El:=⟨[(3,(.fn 72 [] [(.ptr 1000000000 0),(.ptr 1000000001 0),(.ptr 1000000002 0),(.ptr 1000000003 0),(.ptr 1000000004 0)])),(5,(.ptr 5 0)),(9,(.ful 9)),(13,(.ful 13)),(14,(.ful 14)),(39,(.int .i64 nA)),(40,(.int .i64 oA)),(46,(.lst .node tA)),(47,(.int .i64 uA)),(48,(.int .i64 rA))],[(9,(.rows .ints m9)),(13,(.rows .int kA)),(14,(.rows .int fA)),(5,(.box 0 [(.lst .node gA),(.lst .link iA)])),(1000000000,(.box 1000000000 [(.lst .rule dA)])),(1000000001,(.box 1000000001 [(.str bA)])),(1000000002,(.box 1000000002 [(.lst .node aA),(.lst .link eA)])),(1000000003,(.box 1000000003 [(.bool cA)])),(1000000004,(.box 1000000004 [(.lst .int jA)]))]⟩
noncomputable def fr8 (m9:List (List Int)) (kA:List Int) (fA:List Int) (nA:Int) (oA:Int) (tA:List Node) (uA:Int) (rA:Int) (gA:List Node) (iA:List Lnk) (dA:List Rule) (bA:List UInt8) (aA:List Node) (eA:List Lnk) (cA:Bool) (jA:List Int):St U El:=⟨[(3,(.fn 72 [] [(.ptr 1000000000 0),(.ptr 1000000001 0),(.ptr 1000000002 0),(.ptr 1000000003 0),(.ptr 1000000004 0)])),(5,(.ptr 5 0)),(9,(.ful 9)),(13,(.ful 13)),(14,(.ful 14)),(39,(.int .i64 nA)),(40,(.int .i64 oA)),(46,(.lst .node tA)),(47,(.int .i64 uA)),(48,(.int .i64 rA))],[(9,(.rows .ints m9)),(13,(.rows .int kA)),(14,(.rows .int fA)),(5,(.box 0 [(.lst .node gA),(.lst .link iA)])),(1000000000,(.box 1000000000 [(.lst .rule dA)])),(1000000001,(.box 1000000001 [(.str bA)])),(1000000002,(.box 1000000002 [(.lst .node aA),(.lst .link eA)])),(1000000003,(.box 1000000003 [(.bool cA)])),(1000000004,(.box 1000000004 [(.lst .int jA)]))]⟩
noncomputable def fr9 (m9:List (List Int)) (kA:List Int) (sA:Int) (nA:Int) (oA:Int) (gA:List Node) (iA:List Lnk) (dA:List Rule) (bA:List UInt8) (aA:List Node) (eA:List Lnk) (cA:Bool) (jA:List Int):St U El:=⟨[(3,(.fn 72 [] [(.ptr 1000000000 0),(.ptr 1000000001 0),(.ptr 1000000002 0),(.ptr 1000000003 0),(.ptr 1000000004 0)])),(5,(.ptr 5 0)),(9,(.ful 9)),(13,(.ful 13)),(17,(.int .i64 sA)),(39,(.int .i64 nA)),(40,(.int .i64 oA))],[(9,(.rows .ints m9)),(13,(.rows .int kA)),(5,(.box 0 [(.lst .node gA),(.lst .link iA)])),(1000000000,(.box 1000000000 [(.lst .rule dA)])),(1000000001,(.box 1000000001 [(.str bA)])),(1000000002,(.box 1000000002 [(.lst .node aA),(.lst .link eA)])),(1000000003,(.box 1000000003 [(.bool cA)])),(1000000004,(.box 1000000004 [(.lst .int jA)]))]⟩
noncomputable def sh0 (l:List Rule) (n:Net) (s:List UInt8) (l2:List Rule) (s2:List UInt8) (lA:List Node) (pA:List Lnk) (cm:Bool) (k2:Y2):R :=
 chk ((okN n&&rulesB l)) (k2 (marksC l n s) (1:Int) (Int.ofNat (List.length (marksC l n s))) (0:Int) n.nds n.lks l2 s2 lA pA cm)
noncomputable def sh1 (m9:List (List Int)) (mA:Int) (gA:List Node) (iA:List Lnk) (dA:List Rule) (bA:List UInt8) (aA:List Node) (eA:List Lnk) (cA:Bool) (k4:Y4):R :=
 chk (ile 0 (Int.ofNat (List.length m9))&&ile (Int.ofNat (List.length m9)) (Int.ofNat (List.length m9))&&ile ((Int.ofNat (List.length m9)) * 8) 140737488355328) (k4 m9 (List.replicate (Int.toNat (Int.ofNat (List.length m9))) d_int) mA (0:Int) gA iA dA bA aA eA cA ([]:List Int))
noncomputable def sh2 (m9:List (List Int)) (mA:Int) (bB:Int) (vA:Int) (gA:List Node) (iA:List Lnk) (dA:List Rule) (bA:List UInt8) (aA:List Node) (eA:List Lnk) (cA:Bool) (k1:Y1) (k2:Y2):R :=
 condB (ilt vA bB) (chk (inb vA (List.length m9)) (chk (nlt (Int.toNat vA) (List.length m9)) (condB (ilt (10000:Int) (IntKind.wrap .i64 (mA * (bif ilt (1:Int) (Int.ofNat (List.length (List.getD m9 (Int.toNat vA) d_ints))) then (Int.ofNat (List.length (List.getD m9 (Int.toNat vA) d_ints))) else (1:Int))))) (some ((.bool false),[(1000000000,(.box 1000000000 [(.lst .rule dA)])),(1000000001,(.box 1000000001 [(.str bA)])),(1000000002,(.box 1000000002 [(.lst .node aA),(.lst .link eA)])),(1000000003,(.box 1000000003 [(.bool cA)])),(1000000004,(.box 1000000004 [(.lst .int ([]:List Int))]))])) (k2 m9 (IntKind.wrap .i64 (mA * (bif ilt (1:Int) (Int.ofNat (List.length (List.getD m9 (Int.toNat vA) d_ints))) then (Int.ofNat (List.length (List.getD m9 (Int.toNat vA) d_ints))) else (1:Int)))) bB (IntKind.wrap .i64 (vA+(1:Int))) gA iA dA bA aA eA cA)))) (k1 m9 mA gA iA dA bA aA eA cA)
noncomputable def sh3 (dA:List Rule) (bA:List UInt8) (aA:List Node) (eA:List Lnk) (cA:Bool) (jA:List Int):R :=
 some ((.bool true),[(1000000000,(.box 1000000000 [(.lst .rule dA)])),(1000000001,(.box 1000000001 [(.str bA)])),(1000000002,(.box 1000000002 [(.lst .node aA),(.lst .link eA)])),(1000000003,(.box 1000000003 [(.bool cA)])),(1000000004,(.box 1000000004 [(.lst .int jA)]))])
noncomputable def sh4 (m9:List (List Int)) (kA:List Int) (nA:Int) (oA:Int) (gA:List Node) (iA:List Lnk) (dA:List Rule) (bA:List UInt8) (aA:List Node) (eA:List Lnk) (cA:Bool) (jA:List Int) (k3:Y3) (k7:Y7):R :=
 condB (ilt oA nA) (chk (ile 0 (Int.ofNat (List.length m9))&&ile (Int.ofNat (List.length m9)) (Int.ofNat (List.length m9))&&ile ((Int.ofNat (List.length m9)) * 8) 140737488355328) (k7 m9 kA (List.replicate (Int.toNat (Int.ofNat (List.length m9))) d_int) nA oA gA (Int.ofNat (List.length gA)) (0:Int) gA iA dA bA aA eA cA jA)) (k3 dA bA aA eA cA jA)
noncomputable def sh5 (m9:List (List Int)) (kA:List Int) (nA:Int) (oA:Int) (gA:List Node) (iA:List Lnk) (dA:List Rule) (bA:List UInt8) (aA:List Node) (eA:List Lnk) (cA:Bool) (jA:List Int) (k4:Y4):R :=
 k4 m9 kA nA (IntKind.wrap .i64 (oA+(1:Int))) gA iA dA bA aA eA cA jA
noncomputable def sh6 (m9:List (List Int)) (kA:List Int) (fA:List Int) (nA:Int) (oA:Int) (gA:List Node) (iA:List Lnk) (dA:List Rule) (bA:List UInt8) (aA:List Node) (eA:List Lnk) (cA:Bool) (jA:List Int) (k9:Y9):R :=
 chk ((nle (List.length dA) 90000&&List.all dA (hasLevR aA fA))) (condB (!(someB dA bA aA fA)) (some ((.bool true),[(1000000000,(.box 1000000000 [(.lst .rule dA)])),(1000000001,(.box 1000000001 [(.str bA)])),(1000000002,(.box 1000000002 [(.lst .node aA),(.lst .link eA)])),(1000000003,(.box 1000000003 [(.bool (someB dA bA aA fA))])),(1000000004,(.box 1000000004 [(.lst .int ((bif someB dA bA aA fA then jA else fA)))]))])) (k9 m9 kA (IntKind.wrap .i64 ((Int.ofNat (List.length kA)) - (1:Int))) nA oA gA iA dA bA aA eA (someB dA bA aA fA) ((bif someB dA bA aA fA then jA else fA))))
noncomputable def sh7 (m9:List (List Int)) (kA:List Int) (fA:List Int) (nA:Int) (oA:Int) (tA:List Node) (uA:Int) (rA:Int) (gA:List Node) (iA:List Lnk) (dA:List Rule) (bA:List UInt8) (aA:List Node) (eA:List Lnk) (cA:Bool) (jA:List Int) (k6:Y6) (k8:Y8):R :=
 condB (ilt rA uA) (chk (inb rA (List.length tA)) (chk (inb rA (List.length fA)) (chk (nlt (Int.toNat rA) (List.length fA)&&true) (chk (inb rA (List.length m9)) (chk (nlt (Int.toNat rA) (List.length m9)) (condB (ilt (0:Int) (Int.ofNat (List.length (List.getD m9 (Int.toNat rA) d_ints)))) (chk (inb rA (List.length m9)) (chk (nlt (Int.toNat rA) (List.length m9)) (chk (inb rA (List.length kA)) (chk (nlt (Int.toNat rA) (List.length kA)) (chk (inb (List.getD kA (Int.toNat rA) d_int) (List.length (List.getD m9 (Int.toNat rA) d_ints))) (chk (inb rA (List.length (List.set fA (Int.toNat rA) ((List.getD tA (Int.toNat rA) d_node).ni)))) (chk (nlt (Int.toNat rA) (List.length (List.set fA (Int.toNat rA) ((List.getD tA (Int.toNat rA) d_node).ni)))&&true) (k8 m9 kA (List.set (List.set fA (Int.toNat rA) ((List.getD tA (Int.toNat rA) d_node).ni)) (Int.toNat rA) (List.getD (List.getD m9 (Int.toNat rA) d_ints) (Int.toNat (List.getD kA (Int.toNat rA) d_int)) d_int)) nA oA tA uA rA gA iA dA bA aA eA cA jA)))))))) (k8 m9 kA (List.set fA (Int.toNat rA) ((List.getD tA (Int.toNat rA) d_node).ni)) nA oA tA uA rA gA iA dA bA aA eA cA jA))))))) (k6 m9 kA fA nA oA gA iA dA bA aA eA cA jA)
noncomputable def sh8 (m9:List (List Int)) (kA:List Int) (fA:List Int) (nA:Int) (oA:Int) (tA:List Node) (uA:Int) (rA:Int) (gA:List Node) (iA:List Lnk) (dA:List Rule) (bA:List UInt8) (aA:List Node) (eA:List Lnk) (cA:Bool) (jA:List Int) (k7:Y7):R :=
 k7 m9 kA fA nA oA tA uA (IntKind.wrap .i64 (rA+(1:Int))) gA iA dA bA aA eA cA jA
noncomputable def sh9 (m9:List (List Int)) (kA:List Int) (sA:Int) (nA:Int) (oA:Int) (gA:List Node) (iA:List Lnk) (dA:List Rule) (bA:List UInt8) (aA:List Node) (eA:List Lnk) (cA:Bool) (jA:List Int) (k5:Y5) (k9:Y9):R :=
 condB (ile (0:Int) sA) (chk (inb sA (List.length kA)) (chk (nlt (Int.toNat sA) (List.length kA)) (chk (inb sA (List.length kA)) (chk (nlt (Int.toNat sA) (List.length kA)&&true) (chk (inb sA (List.length (List.set kA (Int.toNat sA) (IntKind.wrap .i64 ((List.getD kA (Int.toNat sA) d_int)+(1:Int)))))) (chk (nlt (Int.toNat sA) (List.length (List.set kA (Int.toNat sA) (IntKind.wrap .i64 ((List.getD kA (Int.toNat sA) d_int)+(1:Int)))))) (chk (inb sA (List.length m9)) (chk (nlt (Int.toNat sA) (List.length m9)) (condB (ilt (List.getD (List.set kA (Int.toNat sA) (IntKind.wrap .i64 ((List.getD kA (Int.toNat sA) d_int)+(1:Int)))) (Int.toNat sA) d_int) (Int.ofNat (List.length (List.getD m9 (Int.toNat sA) d_ints)))) (k5 m9 (List.set kA (Int.toNat sA) (IntKind.wrap .i64 ((List.getD kA (Int.toNat sA) d_int)+(1:Int)))) nA oA gA iA dA bA aA eA cA jA) (chk (inb sA (List.length (List.set kA (Int.toNat sA) (IntKind.wrap .i64 ((List.getD kA (Int.toNat sA) d_int)+(1:Int)))))) (chk (nlt (Int.toNat sA) (List.length (List.set kA (Int.toNat sA) (IntKind.wrap .i64 ((List.getD kA (Int.toNat sA) d_int)+(1:Int)))))&&true) (k9 m9 (List.set (List.set kA (Int.toNat sA) (IntKind.wrap .i64 ((List.getD kA (Int.toNat sA) d_int)+(1:Int)))) (Int.toNat sA) (0:Int)) (IntKind.wrap .i64 (sA - (1:Int))) nA oA gA iA dA bA aA eA cA jA)))))))))))) (k5 m9 kA nA oA gA iA dA bA aA eA cA jA)
noncomputable def it2 (Kb1:Kont U El) (n:Nat):Kont U El:=iter nm2 (fun st' K'=>exec X (cdp [1,1,1,0,1,0,0] bd) .d st' K' (Eblk 0 (cutK nm1 Kb1) (fun _ _=>none)) RR) n
noncomputable def it4 (Kb3:Kont U El) (n:Nat):Kont U El:=iter nm4 (fun st' K'=>exec X (cdp [1,1,1,1,1,0,1,0,0] bd) (.seq none .d (.seq none .d (.seq (some nm5) (.block (.seq none .d (.seq (some nm6) (.seq none .d (.block (.loop nm7 (.seq none .d (.seq none .d (.seq (some nm8) (.block (.seq none .d (.seq none .d (.seq none .d (.cond (.region [(13,14)]) .d))))) .d)))))) (.seq none .d (.seq none .d (.block (.loop nm9 .d))))))) .d))) st' K' (Eblk 2 (cutK nm3 Kb3) (fun _ _=>none)) RR) n
noncomputable def it7 (Kb3 Kb5 Kb6:Kont U El) (n:Nat):Kont U El:=iter nm7 (fun st' K'=>exec X (cdp [1,1,1,1,1,0,1,0,0,1,1,0,0,1,0,1,0,0] bd) (.seq none .d (.seq none .d (.seq (some nm8) (.block (.seq none .d (.seq none .d (.seq none .d (.cond (.region [(13,14)]) .d))))) .d))) st' K' (Eblk 4 (cutK nm6 Kb6) (Eblk 3 (cutK nm5 Kb5) (Eblk 2 (cutK nm3 Kb3) (fun _ _=>none)))) RR) n
noncomputable def it9 (Kb3 Kb5:Kont U El) (n:Nat):Kont U El:=iter nm9 (fun st' K'=>exec X (cdp [1,1,1,1,1,0,1,0,0,1,1,0,0,1,1,1,1,0,0] bd) .d st' K' (Eblk 6 (cutK nm5 Kb5) (Eblk 3 (cutK nm5 Kb5) (Eblk 2 (cutK nm3 Kb3) (fun _ _=>none)))) RR) n
noncomputable def ct1:Kont U El:=fun st=>exec X (cdp [1,1,1,1] bd) (.seq none .d (.seq (some nm3) (.seq none .d (.block (.loop nm4 (.seq none .d (.seq none .d (.seq (some nm5) (.block (.seq none .d (.seq (some nm6) (.seq none .d (.block (.loop nm7 (.seq none .d (.seq none .d (.seq (some nm8) (.block (.seq none .d (.seq none .d (.seq none .d (.cond (.region [(13,14)]) .d))))) .d)))))) (.seq none .d (.seq none .d (.block (.loop nm9 .d))))))) .d)))))) .d)) st RR (fun _ _=>none) RR
noncomputable def ct3:Kont U El:=fun st=>exec X (cdp [1,1,1,1,1,1] bd) .d st RR (fun _ _=>none) RR
noncomputable def ct5 (Kb3 Kb4:Kont U El):Kont U El:=fun st=>exec X (cdp [1,1,1,1,1,0,1,0,0,1,1,1] bd) .d st (cutK nm4 Kb4) (Eblk 2 (cutK nm3 Kb3) (fun _ _=>none)) RR
noncomputable def ct6 (Kb3 Kb5:Kont U El):Kont U El:=fun st=>exec X (cdp [1,1,1,1,1,0,1,0,0,1,1,0,0,1,1] bd) (.seq none .d (.seq none .d (.block (.loop nm9 .d)))) st (cutK nm5 Kb5) (Eblk 3 (cutK nm5 Kb5) (Eblk 2 (cutK nm3 Kb3) (fun _ _=>none))) RR
noncomputable def ct8 (Kb3 Kb5 Kb6 Kb7:Kont U El):Kont U El:=fun st=>exec X (cdp [1,1,1,1,1,0,1,0,0,1,1,0,0,1,0,1,0,0,1,1,1] bd) .d st (cutK nm7 Kb7) (Eblk 4 (cutK nm6 Kb6) (Eblk 3 (cutK nm5 Kb5) (Eblk 2 (cutK nm3 Kb3) (fun _ _=>none)))) RR
theorem P0 (l n s l2 s2 lA pA cm):exec X (cdp [] bd) (.seq none .d (.seq none .d (.seq none .d (.seq (some nm1) (.seq none .d (.block (.loop nm2 .d))) (.seq none .d (.seq (some nm3) (.seq none .d (.block (.loop nm4 (.seq none .d (.seq none .d (.seq (some nm5) (.block (.seq none .d (.seq (some nm6) (.seq none .d (.block (.loop nm7 (.seq none .d (.seq none .d (.seq (some nm8) (.block (.seq none .d (.seq none .d (.seq none .d (.cond (.region [(13,14)]) .d))))) .d)))))) (.seq none .d (.seq none .d (.block (.loop nm9 .d))))))) .d)))))) .d)))))) (fr0 l n s l2 s2 lA pA cm) RR (fun _ _=>none) RR=sh0 l n s l2 s2 lA pA cm (fun y0 y1 y2 y3 y4 y5 y6 y7 y8 y9 y10=>(hid (it2 (hid ct1) 100000)) (fr2 y0 y1 y2 y3 y4 y5 y6 y7 y8 y9 y10)):=by kernel_rfl
theorem P1 (m9 mA gA iA dA bA aA eA cA):ct1 (fr1 m9 mA gA iA dA bA aA eA cA)=sh1 m9 mA gA iA dA bA aA eA cA (fun y0 y1 y2 y3 y4 y5 y6 y7 y8 y9 y10 y11=>(hid (it4 (hid ct3) 100000)) (fr4 y0 y1 y2 y3 y4 y5 y6 y7 y8 y9 y10 y11)):=by kernel_rfl
theorem P2 (m9 mA bB vA gA iA dA bA aA eA cA) (Kb1 Kb2:Kont U El):exec X (cdp [1,1,1,0,1,0,0] bd) .d (fr2 m9 mA bB vA gA iA dA bA aA eA cA) (cutK nm2 Kb2) (Eblk 0 (cutK nm1 Kb1) (fun _ _=>none)) RR=sh2 m9 mA bB vA gA iA dA bA aA eA cA (fun y0 y1 y2 y3 y4 y5 y6 y7 y8=>Kb1 (fr1 y0 y1 y2 y3 y4 y5 y6 y7 y8)) (fun y0 y1 y2 y3 y4 y5 y6 y7 y8 y9 y10=>Kb2 (fr2 y0 y1 y2 y3 y4 y5 y6 y7 y8 y9 y10)):=by kernel_rfl
theorem P3 (dA bA aA eA cA jA):ct3 (fr3 dA bA aA eA cA jA)=sh3 dA bA aA eA cA jA:=by kernel_rfl
theorem P4 (m9 kA nA oA gA iA dA bA aA eA cA jA) (Kb3 Kb4:Kont U El):exec X (cdp [1,1,1,1,1,0,1,0,0] bd) (.seq none .d (.seq none .d (.seq (some nm5) (.block (.seq none .d (.seq (some nm6) (.seq none .d (.block (.loop nm7 (.seq none .d (.seq none .d (.seq (some nm8) (.block (.seq none .d (.seq none .d (.seq none .d (.cond (.region [(13,14)]) .d))))) .d)))))) (.seq none .d (.seq none .d (.block (.loop nm9 .d))))))) .d))) (fr4 m9 kA nA oA gA iA dA bA aA eA cA jA) (cutK nm4 Kb4) (Eblk 2 (cutK nm3 Kb3) (fun _ _=>none)) RR=sh4 m9 kA nA oA gA iA dA bA aA eA cA jA (fun y0 y1 y2 y3 y4 y5=>Kb3 (fr3 y0 y1 y2 y3 y4 y5)) (fun y0 y1 y2 y3 y4 y5 y6 y7 y8 y9 y10 y11 y12 y13 y14 y15=>(hid (it7 Kb3 (hid (ct5 Kb3 Kb4)) (hid (ct6 Kb3 (hid (ct5 Kb3 Kb4)))) 100000)) (fr7 y0 y1 y2 y3 y4 y5 y6 y7 y8 y9 y10 y11 y12 y13 y14 y15)):=by kernel_rfl
theorem P5 (m9 kA nA oA gA iA dA bA aA eA cA jA) (Kb3 Kb4:Kont U El):ct5 Kb3 Kb4 (fr5 m9 kA nA oA gA iA dA bA aA eA cA jA)=sh5 m9 kA nA oA gA iA dA bA aA eA cA jA (fun y0 y1 y2 y3 y4 y5 y6 y7 y8 y9 y10 y11=>Kb4 (fr4 y0 y1 y2 y3 y4 y5 y6 y7 y8 y9 y10 y11)):=by kernel_rfl
theorem P6 (m9 kA fA nA oA gA iA dA bA aA eA cA jA) (Kb3 Kb5:Kont U El):ct6 Kb3 Kb5 (fr6 m9 kA fA nA oA gA iA dA bA aA eA cA jA)=sh6 m9 kA fA nA oA gA iA dA bA aA eA cA jA (fun y0 y1 y2 y3 y4 y5 y6 y7 y8 y9 y10 y11 y12=>(hid (it9 Kb3 Kb5 100000)) (fr9 y0 y1 y2 y3 y4 y5 y6 y7 y8 y9 y10 y11 y12)):=by kernel_rfl
theorem P7 (m9 kA fA nA oA tA uA rA gA iA dA bA aA eA cA jA) (Kb3 Kb5 Kb6 Kb7:Kont U El):exec X (cdp [1,1,1,1,1,0,1,0,0,1,1,0,0,1,0,1,0,0] bd) (.seq none .d (.seq none .d (.seq (some nm8) (.block (.seq none .d (.seq none .d (.seq none .d (.cond (.region [(13,14)]) .d))))) .d))) (fr7 m9 kA fA nA oA tA uA rA gA iA dA bA aA eA cA jA) (cutK nm7 Kb7) (Eblk 4 (cutK nm6 Kb6) (Eblk 3 (cutK nm5 Kb5) (Eblk 2 (cutK nm3 Kb3) (fun _ _=>none)))) RR=sh7 m9 kA fA nA oA tA uA rA gA iA dA bA aA eA cA jA (fun y0 y1 y2 y3 y4 y5 y6 y7 y8 y9 y10 y11 y12=>Kb6 (fr6 y0 y1 y2 y3 y4 y5 y6 y7 y8 y9 y10 y11 y12)) (fun y0 y1 y2 y3 y4 y5 y6 y7 y8 y9 y10 y11 y12 y13 y14 y15=>(hid (ct8 Kb3 Kb5 Kb6 Kb7)) (fr8 y0 y1 y2 y3 y4 y5 y6 y7 y8 y9 y10 y11 y12 y13 y14 y15)):=by kernel_rfl
theorem P8 (m9 kA fA nA oA tA uA rA gA iA dA bA aA eA cA jA) (Kb3 Kb5 Kb6 Kb7:Kont U El):ct8 Kb3 Kb5 Kb6 Kb7 (fr8 m9 kA fA nA oA tA uA rA gA iA dA bA aA eA cA jA)=sh8 m9 kA fA nA oA tA uA rA gA iA dA bA aA eA cA jA (fun y0 y1 y2 y3 y4 y5 y6 y7 y8 y9 y10 y11 y12 y13 y14 y15=>Kb7 (fr7 y0 y1 y2 y3 y4 y5 y6 y7 y8 y9 y10 y11 y12 y13 y14 y15)):=by kernel_rfl
theorem P9 (m9 kA sA nA oA gA iA dA bA aA eA cA jA) (Kb3 Kb5 Kb9:Kont U El):exec X (cdp [1,1,1,1,1,0,1,0,0,1,1,0,0,1,1,1,1,0,0] bd) .d (fr9 m9 kA sA nA oA gA iA dA bA aA eA cA jA) (cutK nm9 Kb9) (Eblk 6 (cutK nm5 Kb5) (Eblk 3 (cutK nm5 Kb5) (Eblk 2 (cutK nm3 Kb3) (fun _ _=>none)))) RR=sh9 m9 kA sA nA oA gA iA dA bA aA eA cA jA (fun y0 y1 y2 y3 y4 y5 y6 y7 y8 y9 y10 y11=>Kb5 (fr5 y0 y1 y2 y3 y4 y5 y6 y7 y8 y9 y10 y11)) (fun y0 y1 y2 y3 y4 y5 y6 y7 y8 y9 y10 y11 y12=>Kb9 (fr9 y0 y1 y2 y3 y4 y5 y6 y7 y8 y9 y10 y11 y12)):=by kernel_rfl
noncomputable def f3 (dA:List Rule) (bA:List UInt8) (aA:List Node) (eA:List Lnk) (cA:Bool) (jA:List Int):R:=sh3 dA bA aA eA cA jA
noncomputable def f5 (k4:Y4) (m9:List (List Int)) (kA:List Int) (nA:Int) (oA:Int) (gA:List Node) (iA:List Lnk) (dA:List Rule) (bA:List UInt8) (aA:List Node) (eA:List Lnk) (cA:Bool) (jA:List Int):R:=sh5 m9 kA nA oA gA iA dA bA aA eA cA jA k4
noncomputable def f9 (k4:Y4):Nat→Y9
 | 0=>fun _ _ _ _ _ _ _ _ _ _ _ _ _=>none
 | n+1=>fun m9 kA sA nA oA gA iA dA bA aA eA cA jA=>sh9 m9 kA sA nA oA gA iA dA bA aA eA cA jA (f5 k4) (f9 k4 n)
noncomputable def f6 (k4:Y4) (m9:List (List Int)) (kA:List Int) (fA:List Int) (nA:Int) (oA:Int) (gA:List Node) (iA:List Lnk) (dA:List Rule) (bA:List UInt8) (aA:List Node) (eA:List Lnk) (cA:Bool) (jA:List Int):R:=sh6 m9 kA fA nA oA gA iA dA bA aA eA cA jA (f9 k4 100000)
noncomputable def f8 (k4:Y4) (k7:Y7) (m9:List (List Int)) (kA:List Int) (fA:List Int) (nA:Int) (oA:Int) (tA:List Node) (uA:Int) (rA:Int) (gA:List Node) (iA:List Lnk) (dA:List Rule) (bA:List UInt8) (aA:List Node) (eA:List Lnk) (cA:Bool) (jA:List Int):R:=sh8 m9 kA fA nA oA tA uA rA gA iA dA bA aA eA cA jA k7
noncomputable def f7 (k4:Y4):Nat→Y7
 | 0=>fun _ _ _ _ _ _ _ _ _ _ _ _ _ _ _ _=>none
 | n+1=>fun m9 kA fA nA oA tA uA rA gA iA dA bA aA eA cA jA=>sh7 m9 kA fA nA oA tA uA rA gA iA dA bA aA eA cA jA (f6 k4) (f8 k4 (f7 k4 n))
noncomputable def f4:Nat→Y4
 | 0=>fun _ _ _ _ _ _ _ _ _ _ _ _=>none
 | n+1=>fun m9 kA nA oA gA iA dA bA aA eA cA jA=>sh4 m9 kA nA oA gA iA dA bA aA eA cA jA f3 (f7 (f4 n) 100000)
noncomputable def f1 (m9:List (List Int)) (mA:Int) (gA:List Node) (iA:List Lnk) (dA:List Rule) (bA:List UInt8) (aA:List Node) (eA:List Lnk) (cA:Bool):R:=sh1 m9 mA gA iA dA bA aA eA cA (f4 100000)
noncomputable def f2:Nat→Y2
 | 0=>fun _ _ _ _ _ _ _ _ _ _ _=>none
 | n+1=>fun m9 mA bB vA gA iA dA bA aA eA cA=>sh2 m9 mA bB vA gA iA dA bA aA eA cA f1 (f2 n)
noncomputable def f0 (l:List Rule) (n:Net) (s:List UInt8) (l2:List Rule) (s2:List UInt8) (lA:List Node) (pA:List Lnk) (cm:Bool):R:=sh0 l n s l2 s2 lA pA cm (f2 100000)
theorem T3 (dA bA aA eA cA jA):(hid ct3) (fr3 dA bA aA eA cA jA)=f3 dA bA aA eA cA jA:=by
 refine (congrFun (hid_eq _) _).trans <| (P3 dA bA aA eA cA jA).trans ?_
 show _=sh3 dA bA aA eA cA jA
 rfl
theorem T5 (KL4:Kont U El) (k4:Y4) (h4:∀ m9 kA nA oA gA iA dA bA aA eA cA jA,KL4 (fr4 m9 kA nA oA gA iA dA bA aA eA cA jA)=k4 m9 kA nA oA gA iA dA bA aA eA cA jA) (m9 kA nA oA gA iA dA bA aA eA cA jA):(hid (ct5 (hid ct3) KL4)) (fr5 m9 kA nA oA gA iA dA bA aA eA cA jA)=f5 k4 m9 kA nA oA gA iA dA bA aA eA cA jA:=by
 refine (congrFun (hid_eq _) _).trans <| (P5 m9 kA nA oA gA iA dA bA aA eA cA jA (hid ct3) KL4).trans ?_
 show _=sh5 m9 kA nA oA gA iA dA bA aA eA cA jA k4
 simp only [h4]
theorem T9 (KL4:Kont U El) (k4:Y4) (h4:∀ m9 kA nA oA gA iA dA bA aA eA cA jA,KL4 (fr4 m9 kA nA oA gA iA dA bA aA eA cA jA)=k4 m9 kA nA oA gA iA dA bA aA eA cA jA):∀ (n:Nat),∀ m9 kA sA nA oA gA iA dA bA aA eA cA jA,it9 (hid ct3) (hid (ct5 (hid ct3) KL4)) n (fr9 m9 kA sA nA oA gA iA dA bA aA eA cA jA)=f9 k4 n m9 kA sA nA oA gA iA dA bA aA eA cA jA:=by
  intro n
  induction n with
  | zero=>intros; rfl
  | succ n ih =>
    intro m9 kA sA nA oA gA iA dA bA aA eA cA jA
    refine (P9 m9 kA sA nA oA gA iA dA bA aA eA cA jA (hid ct3) (hid (ct5 (hid ct3) KL4)) (it9 (hid ct3) (hid (ct5 (hid ct3) KL4)) n)).trans ?_
    show _=sh9 m9 kA sA nA oA gA iA dA bA aA eA cA jA (f5 k4) (f9 k4 n)
    simp only [T5 KL4 k4 h4,ih]
theorem H9 (KL4:Kont U El) (k4:Y4) (h4:∀ m9 kA nA oA gA iA dA bA aA eA cA jA,KL4 (fr4 m9 kA nA oA gA iA dA bA aA eA cA jA)=k4 m9 kA nA oA gA iA dA bA aA eA cA jA) (m9 kA sA nA oA gA iA dA bA aA eA cA jA):hid (it9 (hid ct3) (hid (ct5 (hid ct3) KL4)) 100000) (fr9 m9 kA sA nA oA gA iA dA bA aA eA cA jA)=f9 k4 100000 m9 kA sA nA oA gA iA dA bA aA eA cA jA:=(congrFun (hid_eq _) _).trans (T9 KL4 k4 h4 100000 m9 kA sA nA oA gA iA dA bA aA eA cA jA)
theorem T6 (KL4:Kont U El) (k4:Y4) (h4:∀ m9 kA nA oA gA iA dA bA aA eA cA jA,KL4 (fr4 m9 kA nA oA gA iA dA bA aA eA cA jA)=k4 m9 kA nA oA gA iA dA bA aA eA cA jA) (m9 kA fA nA oA gA iA dA bA aA eA cA jA):(hid (ct6 (hid ct3) (hid (ct5 (hid ct3) KL4)))) (fr6 m9 kA fA nA oA gA iA dA bA aA eA cA jA)=f6 k4 m9 kA fA nA oA gA iA dA bA aA eA cA jA:=by
 refine (congrFun (hid_eq _) _).trans <| (P6 m9 kA fA nA oA gA iA dA bA aA eA cA jA (hid ct3) (hid (ct5 (hid ct3) KL4))).trans ?_
 show _=sh6 m9 kA fA nA oA gA iA dA bA aA eA cA jA (f9 k4 100000)
 simp only [H9 KL4 k4 h4]
theorem T8 (KL4:Kont U El) (KL7:Kont U El) (k4:Y4) (k7:Y7) (h4:∀ m9 kA nA oA gA iA dA bA aA eA cA jA,KL4 (fr4 m9 kA nA oA gA iA dA bA aA eA cA jA)=k4 m9 kA nA oA gA iA dA bA aA eA cA jA) (h7:∀ m9 kA fA nA oA tA uA rA gA iA dA bA aA eA cA jA,KL7 (fr7 m9 kA fA nA oA tA uA rA gA iA dA bA aA eA cA jA)=k7 m9 kA fA nA oA tA uA rA gA iA dA bA aA eA cA jA) (m9 kA fA nA oA tA uA rA gA iA dA bA aA eA cA jA):(hid (ct8 (hid ct3) (hid (ct5 (hid ct3) KL4)) (hid (ct6 (hid ct3) (hid (ct5 (hid ct3) KL4)))) KL7)) (fr8 m9 kA fA nA oA tA uA rA gA iA dA bA aA eA cA jA)=f8 k4 k7 m9 kA fA nA oA tA uA rA gA iA dA bA aA eA cA jA:=by
 refine (congrFun (hid_eq _) _).trans <| (P8 m9 kA fA nA oA tA uA rA gA iA dA bA aA eA cA jA (hid ct3) (hid (ct5 (hid ct3) KL4)) (hid (ct6 (hid ct3) (hid (ct5 (hid ct3) KL4)))) KL7).trans ?_
 show _=sh8 m9 kA fA nA oA tA uA rA gA iA dA bA aA eA cA jA k7
 simp only [h7]
theorem T7 (KL4:Kont U El) (k4:Y4) (h4:∀ m9 kA nA oA gA iA dA bA aA eA cA jA,KL4 (fr4 m9 kA nA oA gA iA dA bA aA eA cA jA)=k4 m9 kA nA oA gA iA dA bA aA eA cA jA):∀ (n:Nat),∀ m9 kA fA nA oA tA uA rA gA iA dA bA aA eA cA jA,it7 (hid ct3) (hid (ct5 (hid ct3) KL4)) (hid (ct6 (hid ct3) (hid (ct5 (hid ct3) KL4)))) n (fr7 m9 kA fA nA oA tA uA rA gA iA dA bA aA eA cA jA)=f7 k4 n m9 kA fA nA oA tA uA rA gA iA dA bA aA eA cA jA:=by
  intro n
  induction n with
  | zero=>intros; rfl
  | succ n ih =>
    intro m9 kA fA nA oA tA uA rA gA iA dA bA aA eA cA jA
    refine (P7 m9 kA fA nA oA tA uA rA gA iA dA bA aA eA cA jA (hid ct3) (hid (ct5 (hid ct3) KL4)) (hid (ct6 (hid ct3) (hid (ct5 (hid ct3) KL4)))) (it7 (hid ct3) (hid (ct5 (hid ct3) KL4)) (hid (ct6 (hid ct3) (hid (ct5 (hid ct3) KL4)))) n)).trans ?_
    show _=sh7 m9 kA fA nA oA tA uA rA gA iA dA bA aA eA cA jA (f6 k4) (f8 k4 (f7 k4 n))
    simp only [T6 KL4 k4 h4,T8 KL4 (it7 (hid ct3) (hid (ct5 (hid ct3) KL4)) (hid (ct6 (hid ct3) (hid (ct5 (hid ct3) KL4)))) n) k4 (f7 k4 n) h4 ih]
theorem H7 (KL4:Kont U El) (k4:Y4) (h4:∀ m9 kA nA oA gA iA dA bA aA eA cA jA,KL4 (fr4 m9 kA nA oA gA iA dA bA aA eA cA jA)=k4 m9 kA nA oA gA iA dA bA aA eA cA jA) (m9 kA fA nA oA tA uA rA gA iA dA bA aA eA cA jA):hid (it7 (hid ct3) (hid (ct5 (hid ct3) KL4)) (hid (ct6 (hid ct3) (hid (ct5 (hid ct3) KL4)))) 100000) (fr7 m9 kA fA nA oA tA uA rA gA iA dA bA aA eA cA jA)=f7 k4 100000 m9 kA fA nA oA tA uA rA gA iA dA bA aA eA cA jA:=(congrFun (hid_eq _) _).trans (T7 KL4 k4 h4 100000 m9 kA fA nA oA tA uA rA gA iA dA bA aA eA cA jA)
theorem T4:∀ (n:Nat),∀ m9 kA nA oA gA iA dA bA aA eA cA jA,it4 (hid ct3) n (fr4 m9 kA nA oA gA iA dA bA aA eA cA jA)=f4 n m9 kA nA oA gA iA dA bA aA eA cA jA:=by
  intro n
  induction n with
  | zero=>intros; rfl
  | succ n ih =>
    intro m9 kA nA oA gA iA dA bA aA eA cA jA
    refine (P4 m9 kA nA oA gA iA dA bA aA eA cA jA (hid ct3) (it4 (hid ct3) n)).trans ?_
    show _=sh4 m9 kA nA oA gA iA dA bA aA eA cA jA f3 (f7 (f4 n) 100000)
    simp only [T3,H7 (it4 (hid ct3) n) (f4 n) ih]
theorem H4 (m9 kA nA oA gA iA dA bA aA eA cA jA):hid (it4 (hid ct3) 100000) (fr4 m9 kA nA oA gA iA dA bA aA eA cA jA)=f4 100000 m9 kA nA oA gA iA dA bA aA eA cA jA:=(congrFun (hid_eq _) _).trans (T4 100000 m9 kA nA oA gA iA dA bA aA eA cA jA)
theorem T1 (m9 mA gA iA dA bA aA eA cA):(hid ct1) (fr1 m9 mA gA iA dA bA aA eA cA)=f1 m9 mA gA iA dA bA aA eA cA:=by
 refine (congrFun (hid_eq _) _).trans <| (P1 m9 mA gA iA dA bA aA eA cA).trans ?_
 show _=sh1 m9 mA gA iA dA bA aA eA cA (f4 100000)
 simp only [H4]
theorem T2:∀ (n:Nat),∀ m9 mA bB vA gA iA dA bA aA eA cA,it2 (hid ct1) n (fr2 m9 mA bB vA gA iA dA bA aA eA cA)=f2 n m9 mA bB vA gA iA dA bA aA eA cA:=by
  intro n
  induction n with
  | zero=>intros; rfl
  | succ n ih =>
    intro m9 mA bB vA gA iA dA bA aA eA cA
    refine (P2 m9 mA bB vA gA iA dA bA aA eA cA (hid ct1) (it2 (hid ct1) n)).trans ?_
    show _=sh2 m9 mA bB vA gA iA dA bA aA eA cA f1 (f2 n)
    simp only [T1,ih]
theorem H2 (m9 mA bB vA gA iA dA bA aA eA cA):hid (it2 (hid ct1) 100000) (fr2 m9 mA bB vA gA iA dA bA aA eA cA)=f2 100000 m9 mA bB vA gA iA dA bA aA eA cA:=(congrFun (hid_eq _) _).trans (T2 100000 m9 mA bB vA gA iA dA bA aA eA cA)
theorem T0 (l n s l2 s2 lA pA cm):exec X bd (.seq none .d (.seq none .d (.seq none .d (.seq (some nm1) (.seq none .d (.block (.loop nm2 .d))) (.seq none .d (.seq (some nm3) (.seq none .d (.block (.loop nm4 (.seq none .d (.seq none .d (.seq (some nm5) (.block (.seq none .d (.seq (some nm6) (.seq none .d (.block (.loop nm7 (.seq none .d (.seq none .d (.seq (some nm8) (.block (.seq none .d (.seq none .d (.seq none .d (.cond (.region [(13,14)]) .d))))) .d)))))) (.seq none .d (.seq none .d (.block (.loop nm9 .d))))))) .d)))))) .d)))))) (fr0 l n s l2 s2 lA pA cm) RR (fun _ _=>none) RR=f0 l n s l2 s2 lA pA cm:=by
 refine (P0 l n s l2 s2 lA pA cm).trans ?_
 show _=sh0 l n s l2 s2 lA pA cm (f2 100000)
 simp only [H2]
theorem run (l n s l2 s2 lA pA cm):runM X bd (.seq none .d (.seq none .d (.seq none .d (.seq (some nm1) (.seq none .d (.block (.loop nm2 .d))) (.seq none .d (.seq (some nm3) (.seq none .d (.block (.loop nm4 (.seq none .d (.seq none .d (.seq (some nm5) (.block (.seq none .d (.seq (some nm6) (.seq none .d (.block (.loop nm7 (.seq none .d (.seq none .d (.seq (some nm8) (.block (.seq none .d (.seq none .d (.seq none .d (.cond (.region [(13,14)]) .d))))) .d)))))) (.seq none .d (.seq none .d (.block (.loop nm9 .d))))))) .d)))))) .d)))))) nmR [8] [(1000000000,(.box 1000000000 [(.lst .rule l2)])),(1000000001,(.box 1000000001 [(.str s2)])),(1000000002,(.box 1000000002 [(.lst .node lA),(.lst .link pA)])),(1000000003,(.box 1000000003 [(.bool cm)])),(1000000004,(.box 1000000004 [.nils]))] [(.lst .rule l),(.agg [(.lst .node n.nds),(.lst .link n.lks)]),(.str s),(.fn 72 [] [(.ptr 1000000000 0),(.ptr 1000000001 0),(.ptr 1000000002 0),(.ptr 1000000003 0),(.ptr 1000000004 0)])]=f0 l n s l2 s2 lA pA cm:=T0 l n s l2 s2 lA pA cm
noncomputable def ret (few:Bool) (l2:List Rule) (q:List UInt8) (lA:List Node) (pA:List Lnk) (cm:Bool) (gap:List Int):R:=some (.bool few,[(1000000000,.box 1000000000 [.lst .rule l2]),(1000000001,.box 1000000001 [.str q]),(1000000002,.box 1000000002 [.lst .node lA,.lst .link pA]),(1000000003,.box 1000000003 [.bool cm]),(1000000004,.box 1000000004 [.lst .int gap])])
section
variable (l2:List Rule) (q:List UInt8) (lA:List Node) (pA:List Lnk) (nds:List Node) (lks:List Lnk) (m ms:List (List Int)) (hmk:Mk nds m ms) (hn:nds.length≤90000)
include hmk hn
abbrev K4:=List (List Int)→List Int→Int→Int→List Node→List Lnk→List Rule→List UInt8→List Node→List Lnk→Bool→List Int→R
theorem step9 (k4 : K4) (nA oA : Int) (cm : Bool) (gap : List Int) : ∀ (n i : Nat) (a : List Nat), i < n → i ≤ a.length → a.length = nds.length → (∀ (j : Nat) (h : j < a.length), a[j] ≤ 100000) →
    f9 k4 n m (a.map Int.ofNat) ((i:Int) - 1) nA oA nds lks l2 q lA pA cm gap=f5 k4 m ((incF (ms.map (·.length)) i a).map Int.ofNat) nA oA nds lks l2 q lA pA cm gap:=by
  intro n
  induction n with
  | zero=>intro i a h1; omega
  | succ n ih =>
    intro i a h1 h2 h3 h4
    show sh9 m (a.map Int.ofNat) ((i:Int) - 1) nA oA nds lks l2 q lA pA cm gap (f5 k4) (f9 k4 n)=_
    unfold sh9
    cases i with
    | zero=>rw [ileF (by simp)]; rfl
    | succ i =>
      have e0:((i+1:Nat):Int) - 1=(i:Int):=by omega
      rw [e0]
      have hi:i < a.length:=h2
      have hm1:i < m.length:=by rw [hmk.h1]; omega
      have hm2:i < ms.length:=by rw [hmk.h2]; omega
      have hal:i < (a.map Int.ofNat).length:=by simpa using hi
      have hai:=h4 i hi
      have eg:(a.map Int.ofNat).getD i d_int=(a[i]:Int):=by rw [getD_lt hal]; simp
      have ew:IntKind.wrap .i64 ((a[i]:Int)+1)=((a[i]+1:Nat):Int):=wrapS _ (by omega)
      have es:(a.map Int.ofNat).set i ((a[i]+1:Nat):Int)=(a.set i (a[i]+1)).map Int.ofNat:=by rw [List.map_set]; rfl
      have hal2:i < ((a.set i (a[i]+1)).map Int.ofNat).length:=by simpa using hi
      have eg2:((a.set i (a[i]+1)).map Int.ofNat).getD i d_int=((a[i]+1:Nat):Int):=by rw [getD_lt hal2]; simp
      have es2:((a.set i (a[i]+1)).map Int.ofNat).set i (0:Int)=(a.set i 0).map Int.ofNat:=by rw [show (0:Int)=Int.ofNat 0 from rfl,← List.map_set,List.set_set]
      rw [ileT (by omega),toNat_nat,eg,ew,es,eg2,es2,inbT hal,inbT hal2,inbT hm1,nltT hal,nltT hal2,nltT hm1,getD_lt hm1]
      have ed:((i:Int) - 1)=IntKind.wrap .i64 ((i:Int) - 1):=(wrapI (by omega) (by omega)).symm
      rw [← ed]
      have hrec:=ih i (a.set i 0) (by omega) (by simp; omega) (by simpa using h3) (fun j h=>by
        simp only [List.length_set] at h
        rw [List.getElem_set]
        split
        · omega
        · exact h4 j h)
      rw [hrec]
      simp only [incF]
      have e1:a.getD i 0=a[i]:=getD_lt hi 0
      have e2:(ms.map (·.length)).getD i 0=ms[i].length:=by rw [getD_lt (by simpa using hm2)]; simp
      rw [e1,e2]
      have et:ilt ((a[i]+1:Nat):Int) (Int.ofNat m[i].length)=nlt (a[i]+1) ms[i].length:=by
        rcases hmk.h3 i hm1 hm2 (by omega) with ⟨p1,p2⟩ | ⟨p1,p2⟩
        · rw [p1,p2,iltF (by simp; omega),nltF (by simp)]
        · rw [← p2]
          by_cases e:a[i]+1 < m[i].length
          · rw [iltT (by simp; omega),nltT e]
          · rw [iltF (by simp; omega),nltF e]
      rw [et]
      cases nlt (a[i]+1) ms[i].length<;>rfl
theorem step7 (k4 : K4) (nA oA : Int) (cm : Bool) (gap : List Int) (k : Nat) : ∀ (n i : Nat) (lv : List Int), nds.length < n + i → i ≤ nds.length → lv.length = nds.length → lv.take i = (corner ms k).take i →
    f7 k4 n m (digI ms k) lv nA oA nds (Int.ofNat nds.length) (i:Int) nds lks l2 q lA pA cm gap=f6 k4 m (digI ms k) (corner ms k) nA oA nds lks l2 q lA pA cm gap:=by
  intro n
  have hT:(corner ms k).length=nds.length:=by rw [corner_length,hmk.h2]
  induction n with
  | zero=>intro i lv h1 h2; omega
  | succ n ih =>
    intro i lv h1 h2 h3 h4
    show sh7 m (digI ms k) lv nA oA nds (Int.ofNat nds.length) (i:Int) nds lks l2 q lA pA cm gap (f6 k4) (f8 k4 (f7 k4 n))=_
    unfold sh7
    by_cases hi:i < nds.length
    · have hm1 : i < m.length := by rw [hmk.h1]; omega
      have hm2:i < ms.length:=by rw [hmk.h2]; omega
      have hd:i < (digN ms k).length:=by rw [digN_len]; exact hm2
      have hd':i < (digI ms k).length:=by simpa [digI] using hd
      have hlv:i < lv.length:=by omega
      have hT':i < (corner ms k).length:=by omega
      have hdl:=digN_lt (fun j h=>(hmk.len j (by rw [hmk.h1,← hmk.h2]; exact h) h).1) k i hd hm2
      have eT:(corner ms k)[i]=ms[i].getD (digN ms k)[i] 0:=by
        have:(corner ms k)[i]? = some (ms[i].getD (digN ms k)[i] 0):=by
          rw [corner_zip,List.getElem?_zipWith]
          rw [List.getElem?_eq_getElem hm2,show (digR (ms.map (·.length)).reverse k).reverse=digN ms k from rfl,List.getElem?_eq_getElem hd]
        rw [List.getElem?_eq_getElem hT'] at this
        exact Option.some.inj this
      have edg:(digI ms k).getD i d_int=((digN ms k)[i]:Int):=by rw [getD_lt hd']; simp [digI]
      have hk:∀ lv':List Int,lv'.length=nds.length→lv'.take (i+1)=(corner ms k).take (i+1)→f8 k4 (f7 k4 n) m (digI ms k) lv' nA oA nds (Int.ofNat nds.length) (i:Int) nds lks l2 q lA pA cm gap=f6 k4 m (digI ms k) (corner ms k) nA oA nds lks l2 q lA pA cm gap:=fun lv' g1 g2=>by
        show f7 k4 n m (digI ms k) lv' nA oA nds (Int.ofNat nds.length) (IntKind.wrap .i64 ((i:Int)+1)) nds lks l2 q lA pA cm gap=_
        rw [wrapS i (by omega)]
        exact ih (i+1) lv' (by omega) hi g1 g2
      have hset:∀ (lv':List Int) (v:Int),lv'.length=nds.length→lv'.take i=(corner ms k).take i→v=(corner ms k)[i]→(lv'.set i v).take (i+1)=(corner ms k).take (i+1):=fun lv' v g1 g2 g3=>by
        rw [List.take_add_one,List.take_set_of_le (Nat.le_refl i),g2,List.getElem?_set_self (by omega),take_lt hT',g3]
        rfl
      rw [iltT (by simp; omega),inbT hi,inbT hlv,inbT hm1,inbT hd',toNat_nat,nltT hlv,nltT hm1,nltT hd',getD_lt hm1,getD_lt hi,edg,toNat_nat]
      rcases hmk.h3 i hm1 hm2 hi with ⟨p1,p2⟩ | ⟨p1,p2⟩
      · rw [p1, iltF (by simp)]
        simp only [condT,condF,chkT]
        refine hk _ (by simpa using h3) (hset lv _ h3 h4 ?_)
        rw [eT,p2]
        rw [p2] at hdl
        have:(digN ms k)[i]=0:=by simpa using hdl
        rw [this]; rfl
      · have hpos : 0 < m[i].length := List.length_pos_iff.2 p1
        have hsl:i < (lv.set i nds[i].ni).length:=by simpa using hlv
        rw [iltT (by simp; omega),inbT (show (digN ms k)[i] < m[i].length by rw [p2]; exact hdl),inbT hsl,nltT hsl]
        simp only [condT,condF,chkT,Bool.and_true]
        refine hk _ (by simpa using h3) (hset _ _ (by simpa using h3) (by rw [List.take_set_of_le (Nat.le_refl i)]; exact h4) ?_)
        rw [eT,p2]
        rfl
    · have : i = nds.length := by omega
      subst this
      rw [iltF (by simp)]
      rw [List.take_of_length_le (by omega),List.take_of_length_le (by omega)] at h4
      rw [h4]; rfl
end
noncomputable def good (l2:List Rule) (q:List UInt8) (lA:List Node) (ms:List (List Int)) (k:Nat):Bool:=someB l2 q lA (corner ms k)
noncomputable def resO (l2:List Rule) (q:List UInt8) (lA:List Node) (pA:List Lnk) (ms:List (List Int)):Option Nat→R
 | none=>ret true l2 q lA pA true []
 | some k=>ret true l2 q lA pA false (corner ms k)
theorem loop4 (l2 : List Rule) (q : List UInt8) (lA : List Node) (pA : List Lnk) (nds : List Node) (lks : List Lnk) (m ms : List (List Int)) (hmk : Mk nds m ms) (hn : nds.length ≤ 90000) (count : Nat) (hc : count ≤ 10000) (hlev : ∀ v : List Int, v.length = nds.length → (nle (List.length l2) 90000 && List.all l2 (hasLevR lA v)) = true) : ∀ (n k : Nat), count < n + k → k ≤ count →
    f4 n m (digI ms k) (count:Int) (k:Int) nds lks l2 q lA pA true []=resO l2 q lA pA ms (firstN (fun k=>!(good l2 q lA ms k)) (count - k) k):=by
  intro n
  induction n with
  | zero=>intro k h1 h2; omega
  | succ n ih =>
    intro k h1 h2
    show sh4 m (digI ms k) (count:Int) (k:Int) nds lks l2 q lA pA true [] f3 (f7 (f4 n) 100000)=_
    unfold sh4
    by_cases hk:k < count
    · have hml : m.length = nds.length := hmk.h1
      have e7:=step7 l2 q lA pA nds lks m ms hmk hn (f4 n) (count:Int) (k:Int) true [] k 100000 0 (List.replicate (Int.toNat (Int.ofNat m.length)) d_int) (by omega) (by omega) (by rw [toNat_ofNat]; simp; omega) rfl
      rw [iltT (by omega),ileT (show (0:Int)≤Int.ofNat m.length by simp),ileT (Int.le_refl (Int.ofNat m.length)),ileT (show Int.ofNat m.length * 8≤140737488355328 by simp; omega)]
      rw [show ((0:Int))=((0:Nat):Int) from rfl,e7]
      show sh6 m (digI ms k) (corner ms k) (count:Int) (k:Int) nds lks l2 q lA pA true [] (f9 (f4 n) 100000)=_
      unfold sh6
      have hT:(corner ms k).length=nds.length:=by rw [corner_length,hmk.h2]
      rw [hlev _ hT]
      obtain ⟨d,hd⟩:∃ d,count - k=d+1:=⟨count - k - 1,by omega⟩
      rw [hd]
      unfold firstN
      have hdl:(digI ms k).length=nds.length:=by simp [digI,digN_len,hmk.h2]
      have ew:IntKind.wrap .i64 (Int.ofNat (digI ms k).length - 1)=((nds.length:Nat):Int) - 1:=by rw [hdl]; exact wrapI (by simp; omega) (by simp; omega)
      rw [ew]
      have e9:∀ cm:Bool,cm=true→f9 (f4 n) 100000 m (digI ms k) (((nds.length:Nat):Int) - 1) (count:Int) (k:Int) nds lks l2 q lA pA cm []=resO l2 q lA pA ms (firstN (fun k => !(good l2 q lA ms k)) d (k+1)):=fun cm hcm=>by
        subst hcm
        have hL:∀ x∈ms.map (·.length),0 < x:=fun x hx=>by
          obtain ⟨y,hy,rfl⟩:=List.mem_map.1 hx
          obtain ⟨j,hj,rfl⟩:=List.getElem_of_mem hy
          exact (hmk.len j (by rw [hmk.h1,← hmk.h2]; exact hj) hj).1
        have:=step9 l2 q lA pA nds lks m ms hmk hn (f4 n) (count:Int) (k:Int) true [] 100000 nds.length (digN ms k) (by omega) (by rw [digN_len,hmk.h2]; exact Nat.le_refl _) (by rw [digN_len,hmk.h2]) (fun j h=>by
          have hj:j < ms.length:=by rw [digN_len] at h; exact h
          have a:=digN_lt (fun j h=>(hmk.len j (by rw [hmk.h1,← hmk.h2]; exact h) h).1) k j h hj
          have b:=(hmk.len j (by rw [hmk.h1,← hmk.h2]; exact hj) hj).2.1
          omega)
        refine (show f9 (f4 n) 100000 m (digI ms k) (((nds.length:Nat):Int) - 1) (count:Int) (k:Int) nds lks l2 q lA pA true []=_ from this).trans ?_
        have ei:incF (ms.map (·.length)) nds.length (digN ms k)=digN ms (k+1):=by
          have:=incF_dig (ms.map (·.length)) hL k
          rw [List.length_map,hmk.h2] at this
          exact this
        rw [ei]
        show f4 n m (digI ms (k+1)) (count:Int) (IntKind.wrap .i64 ((k:Int)+1)) nds lks l2 q lA pA true []=_
        rw [wrapS k (by omega),ih (k+1) (by omega) hk]
        congr 2
        omega
      cases hs:someB l2 q lA (corner ms k) with
      | false =>
        have:good l2 q lA ms k=false:=hs
        rw [this]; rfl
      | true =>
        have:good l2 q lA ms k=true:=hs
        rw [this]
        exact e9 true rfl
    · have : k = count := by omega
      subst this
      rw [iltF (by omega),Nat.sub_self]
      rfl
theorem loop2 (l2 : List Rule) (q : List UInt8) (lA : List Node) (pA : List Lnk) (nds : List Node) (lks : List Lnk) (m ms : List (List Int)) (hmk : Mk nds m ms) (hn : nds.length ≤ 90000) : ∀ (n i : Nat) (c : Nat), nds.length < n + i → i ≤ nds.length → 0 < c → c ≤ 10000 →
    f2 n m (c:Int) (Int.ofNat m.length) (i:Int) nds lks l2 q lA pA true=bif nle (c * prodN ((ms.map (·.length)).drop i)) 10000 then f1 m ((c * prodN ((ms.map (·.length)).drop i):Nat):Int) nds lks l2 q lA pA true else ret false l2 q lA pA true []:=by
  intro n
  induction n with
  | zero=>intro i c h1 h2; omega
  | succ n ih =>
    intro i c h1 h2 h3 h4
    show sh2 m (c:Int) (Int.ofNat m.length) (i:Int) nds lks l2 q lA pA true f1 (f2 n)=_
    unfold sh2
    by_cases hi:i < nds.length
    · have hm1 : i < m.length := by rw [hmk.h1]; omega
      have hm2:i < ms.length:=by rw [hmk.h2]; omega
      obtain ⟨q1,q2,q3⟩:=hmk.len i hm1 hm2
      have hdr:(ms.map (·.length)).drop i=ms[i].length :: (ms.map (·.length)).drop (i+1):=by rw [drop_lt (by simpa using hm2)]; simp
      have hmul:c * ms[i].length≤10000 * 100000:=Nat.mul_le_mul h4 q2
      have ew:IntKind.wrap .i64 ((c:Int) * (ms[i].length:Int))=((c * ms[i].length:Nat):Int):=by
        rw [← Int.natCast_mul]; exact wrapI (by omega) (by omega)
      rw [iltT (by simp; omega),inbT hm1,toNat_nat,nltT hm1,getD_lt hm1,q3,ew,hdr]
      simp only [prodN,condT,chkT]
      rw [← Nat.mul_assoc]
      have hpos:0 < prodN ((ms.map (·.length)).drop (i+1)):=prodN_pos fun x hx=>by
        obtain ⟨y,hy,rfl⟩:=List.mem_map.1 (List.mem_of_mem_drop hx)
        obtain ⟨j,hj,rfl⟩:=List.getElem_of_mem hy
        exact (hmk.len j (by rw [hmk.h1,← hmk.h2]; exact hj) hj).1
      by_cases hb:c * ms[i].length≤10000
      · rw [iltF (by omega)]
        show f2 n m ((c * ms[i].length:Nat):Int) (Int.ofNat m.length) (IntKind.wrap .i64 ((i:Int)+1)) nds lks l2 q lA pA true=_
        rw [wrapS i (by omega)]
        exact ih (i+1) _ (by omega) hi (Nat.mul_pos h3 q1) hb
      · rw [iltT (by omega)]
        have:¬ c * ms[i].length * prodN ((ms.map (·.length)).drop (i+1))≤10000:=fun h=>by
          have:=Nat.le_mul_of_pos_right (c * ms[i].length) hpos
          omega
        rw [show nle (c * ms[i].length * prodN ((ms.map (·.length)).drop (i+1))) 10000=false from decide_eq_false this]
        rfl
    · have e : i = nds.length := by omega
      subst e
      rw [iltF (by simp [hmk.h1]),List.drop_eq_nil_of_le (by simp [hmk.h2])]
      simp only [prodN,Nat.mul_one]
      rw [nleT h4]
      rfl
theorem f0_eq (l:List Rule) (n:Net) (s:List UInt8) (l2:List Rule) (q:List UInt8) (lA:List Node) (pA:List Lnk) (cm:Bool) (h:(okN n&&(rulesB l&&(cm&&cornOk l n s l2 lA)))=true):f0 l n s l2 q lA pA cm=ret (fewB l n s) l2 q lA pA (bif fewB l n s then Option.isNone (gapO l n s l2 q lA) else cm) (bif fewB l n s then gapL l n s l2 q lA else []):=by
  simp only [Bool.and_eq_true] at h
  obtain ⟨hok,hr,hcm,hco⟩:=h
  have hmk:=mk_of (s:=s) (n:=n) hr
  have hn:=nleI (okN_nds hok)
  show sh0 l n s l2 q lA pA cm (f2 100000)=_
  unfold sh0
  rw [hok,hr,hcm]
  have e2:=loop2 l2 q lA pA n.nds n.lks (marksC l n s) (padM l n s) hmk hn 100000 0 1 (by omega) (by omega) (by omega) (by omega)
  rw [List.drop_zero,Nat.one_mul] at e2
  refine (show f2 100000 (marksC l n s) ((1:Nat):Int) (Int.ofNat (marksC l n s).length) ((0:Nat):Int) n.nds n.lks l2 q lA pA true=_ from e2).trans ?_
  show (bif fewB l n s then f1 (marksC l n s) ((countP l n s:Nat):Int) n.nds n.lks l2 q lA pA true else ret false l2 q lA pA true [])=_
  cases hf:fewB l n s with
  | false=>rfl
  | true =>
    have hc:countP l n s≤10000:=nleI hf
    show sh1 (marksC l n s) ((countP l n s:Nat):Int) n.nds n.lks l2 q lA pA true (f4 100000)=_
    unfold sh1
    rw [ileT (show (0:Int)≤Int.ofNat (marksC l n s).length by simp),ileT (Int.le_refl (Int.ofNat (marksC l n s).length)),ileT (show Int.ofNat (marksC l n s).length * 8≤140737488355328 by simp [hmk.h1]; omega)]
    have e4:=loop4 l2 q lA pA n.nds n.lks (marksC l n s) (padM l n s) hmk hn (countP l n s) hc (fun v hv=>cornOk_at hco hv) 100000 0 (by omega) (by omega)
    rw [digI_zero,hmk.h2] at e4
    have er:List.replicate (Int.toNat (Int.ofNat (marksC l n s).length)) d_int=List.replicate n.nds.length (0:Int):=by rw [toNat_ofNat,hmk.h1]; rfl
    rw [er]
    refine (show f4 100000 (marksC l n s) (List.replicate n.nds.length 0) ((countP l n s:Nat):Int) ((0:Nat):Int) n.nds n.lks l2 q lA pA true []=_ from e4).trans ?_
    rw [Nat.sub_zero]
    show resO l2 q lA pA (padM l n s) (gapO l n s l2 q lA)=_
    unfold gapL
    cases gapO l n s l2 q lA<;>rfl
theorem ok:CtxOk Tryz.prog X:=ctxOk tab (spC marks.spOk spN) dpN
theorem okM:MOk Tryz.prog X:=mspecOf_ok _ (mpC (mcSp_ok ok comp1.spOk) mpN)
theorem spec (l:List Rule) (n:Net) (s:List UInt8) (l2:List Rule) (s2:List UInt8) (lA:List Node) (pA:List Lnk) (cm:Bool) (h:((okN n&&(rulesB l&&(cm&&cornOk l n s l2 lA))))=true):MCall Tryz.prog E 71 [(.lst .rule l),(.agg [(.lst .node n.nds),(.lst .link n.lks)]),(.str s),(.fn 72 [] [(.ptr 1000000000 0),(.ptr 1000000001 0),(.ptr 1000000002 0),(.ptr 1000000003 0),(.ptr 1000000004 0)])] [(1000000000,(.box 1000000000 [(.lst .rule l2)])),(1000000001,(.box 1000000001 [(.str s2)])),(1000000002,(.box 1000000002 [(.lst .node lA),(.lst .link pA)])),(1000000003,(.box 1000000003 [(.bool cm)])),(1000000004,(.box 1000000004 [.nils]))] (.bool (fewB l n s)) [(1000000000,(.box 1000000000 [(.lst .rule l2)])),(1000000001,(.box 1000000001 [(.str s2)])),(1000000002,(.box 1000000002 [(.lst .node lA),(.lst .link pA)])),(1000000003,(.box 1000000003 [(.bool (bif fewB l n s then Option.isNone (gapO l n s l2 s2 lA) else cm))])),(1000000004,(.box 1000000004 [(.lst .int ((bif fewB l n s then gapL l n s l2 s2 lA else [])))]))] :=
 runM_sound ok okM Tryz.func71 (by kernel_rfl) (by kernel_rfl) (by kernel_rfl) (by show 4≤109; decide) ((run l n s l2 s2 lA pA cm).trans (f0_eq l n s l2 s2 lA pA cm h))
noncomputable def sp:MSp U El:=fun args hs k=>match args,hs with
 | [.lst .rule l,.agg [.lst .node n_nds,.lst .link n_lks],.str s,.fn 72 [] [.ptr q0 0,.ptr q1 0,.ptr q2 0,.ptr q3 0,.ptr q4 0]],[(q5,.box q6 [.lst .rule l2]),(q7,.box q8 [.str s2]),(q9,.box q10 [.lst .node lA,.lst .link pA]),(q11,.box q12 [.bool cm]),(q13,.box q14 [.nils])]=>chk (Nat.beq q0 1000000000&&(Nat.beq q1 1000000001&&(Nat.beq q2 1000000002&&(Nat.beq q3 1000000003&&(Nat.beq q4 1000000004&&(Nat.beq q5 1000000000&&(Nat.beq q6 1000000000&&(Nat.beq q7 1000000001&&(Nat.beq q8 1000000001&&(Nat.beq q9 1000000002&&(Nat.beq q10 1000000002&&(Nat.beq q11 1000000003&&(Nat.beq q12 1000000003&&(Nat.beq q13 1000000004&&(Nat.beq q14 1000000004&&true))))))))))))))) (chk ((okN (⟨n_nds,n_lks⟩:Net)&&(rulesB l&&(cm&&cornOk l (⟨n_nds,n_lks⟩:Net) s l2 lA)))) (k (.bool (fewB l (⟨n_nds,n_lks⟩:Net) s)) [(1000000000,(.box 1000000000 [(.lst .rule l2)])),(1000000001,(.box 1000000001 [(.str s2)])),(1000000002,(.box 1000000002 [(.lst .node lA),(.lst .link pA)])),(1000000003,(.box 1000000003 [(.bool (bif fewB l (⟨n_nds,n_lks⟩:Net) s then Option.isNone (gapO l (⟨n_nds,n_lks⟩:Net) s l2 s2 lA) else cm))])),(1000000004,(.box 1000000004 [(.lst .int ((bif fewB l (⟨n_nds,n_lks⟩:Net) s then gapL l (⟨n_nds,n_lks⟩:Net) s l2 s2 lA else [])))]))]))
 | _,_=>none
theorem spOk:MSpOk Tryz.prog E 71 sp:=⟨Tryz.call71,fun args hs k r h=>by
 unfold sp at h
 split at h
 ·obtain ⟨hq,hA⟩:=chk_some h
  clear h
  simp only [Bool.and_eq_true] at hq
  obtain ⟨e0,e1,e2,e3,e4,e5,e6,e7,e8,e9,e10,e11,e12,e13,e14,_⟩:=hq
  cases Nat.eq_of_beq_eq_true e0
  cases Nat.eq_of_beq_eq_true e1
  cases Nat.eq_of_beq_eq_true e2
  cases Nat.eq_of_beq_eq_true e3
  cases Nat.eq_of_beq_eq_true e4
  cases Nat.eq_of_beq_eq_true e5
  cases Nat.eq_of_beq_eq_true e6
  cases Nat.eq_of_beq_eq_true e7
  cases Nat.eq_of_beq_eq_true e8
  cases Nat.eq_of_beq_eq_true e9
  cases Nat.eq_of_beq_eq_true e10
  cases Nat.eq_of_beq_eq_true e11
  cases Nat.eq_of_beq_eq_true e12
  cases Nat.eq_of_beq_eq_true e13
  cases Nat.eq_of_beq_eq_true e14
  obtain ⟨h1,hB⟩:=chk_some hA
  exact ⟨_,_,spec _ ⟨_,_⟩ _ _ _ _ _ _ h1,hB⟩
 ·cases h⟩
theorem spDet:∀ args hs,∃ oo:Option (AV U El×Heap U El),∀ k,sp args hs k=oo.bind fun p=>k p.1 p.2:=fun args hs=>by
 unfold sp
 split
 ·exact det_chkM (det_chkM ⟨some (_,_),fun _=>rfl⟩)
 ·exact ⟨none,fun _=>rfl⟩
end cornersC
end Go.Proofs.YthdimnlkcgchoaaGreat
