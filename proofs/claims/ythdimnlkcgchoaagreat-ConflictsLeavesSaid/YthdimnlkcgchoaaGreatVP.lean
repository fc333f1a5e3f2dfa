/- The corners of a link, with the code's closures. -/
import Derived.Test.YthdimnlkcgchoaaGreatPO
namespace Go.Proofs.YthdimnlkcgchoaaGreat
set_option linter.unusedSectionVars false
set_option linter.unusedSimpArgs false
set_option linter.unusedVariables false
set_option maxRecDepth 100000
noncomputable def dg (l:List Rule) (n:Net) (s:List UInt8):Nat:=cd ((cM l n s).map (·.length))
noncomputable def cN (l:List Rule) (n:Net) (s:List UInt8):Bool:=nle (dg l n s) 10000
noncomputable def na (l:List Rule) (n:Net) (s:List UInt8) (l2:List Rule) (s2:List UInt8) (lA:List Node):Option Nat:=dJ (fun k => !(dz l2 s2 lA (a7 (cM l n s) k))) (dg l n s) 0
noncomputable def pX (l:List Rule) (n:Net) (s:List UInt8) (l2:List Rule) (s2:List UInt8) (lA:List Node):List Int:=match na l n s l2 s2 lA with
  | some k=>a7 (cM l n s) k
  | none=>[]
noncomputable def gN (l:List Rule) (n:Net) (s:List UInt8) (l2:List Rule) (kk:Int) (lA:List Node):Option Nat:=dJ (fun k => !(bif dC l2 kk lA (a7 (cM l n s) k) then ia l2 kk lA (a7 (cM l n s) k) else true)) (dg l n s) 0
noncomputable def dK (l:List Rule) (n:Net) (s:List UInt8) (l2:List Rule) (lA:List Node):Bool:=nle l2.length 90000&&List.all l2 (bl lA (List.replicate n.nds.length 0))
theorem nb {nds:List Node} {v w:List Int} (h:v.length=w.length) (r:Rule):bl nds v r=bl nds w r:=by
  unfold bl
  have:bO nds v=bO nds w:=by funext c; unfold bO jn; rw [h]
  rw [this]
theorem la {l:List Rule} {n:Net} {s:List UInt8} {l2:List Rule} {lA:List Node} (h:dK l n s l2 lA=true) {v:List Int} (hv:v.length=n.nds.length):(nle (List.length l2) 90000&&List.all l2 (bl lA v))=true:=by
  unfold dK at h
  have:bl lA v=bl lA (List.replicate n.nds.length 0):=by funext r; exact nb (by simp [hv]) r
  rw [this]; exact h
theorem rf (x:Node):(aM x).slo=x.ni:=by unfold aM; cases x.nk == 3<;>rfl
theorem pY:∀ (l:List Int) (p:Int),(fh p l).length≤l.length:=by
  intro l
  induction l with
  | nil=>intro p; simp [fh]
  | cons x l ih =>
    intro p
    unfold fh
    cases x == p
    · simp only [cond_false,List.length_cons]; have:=ih x; omega
    · simp only [cond_true,List.length_cons]; have:=ih p; omega
theorem me (l:List Int):(bP l).length≤l.length:=by
  cases l with
  | nil=>simp [bP]
  | cons x l=>have:=pY l x; simp [bP,this]
structure Mk (nds:List Node) (m ms:List (List Int)):Prop where
  h1:m.length=nds.length
  h2:ms.length=nds.length
  h3:∀ (i:Nat) (a:i < m.length) (b:i < ms.length) (c:i < nds.length),(m[i]=[]∧ms[i]=[nds[i].ni])∨(m[i]≠[]∧m[i]=ms[i])
  h4:∀ (i:Nat) (a:i < m.length),m[i].length≤100000
theorem se {l:List Rule} {n:Net} {s:List UInt8} (hr:a6 l=true):Mk n.nds (bt l n s) (cM l n s) where
  h1:=by simp [bt]
  h2:=by simp [cM]
  h3:=fun i a b c=>by
    simp only [bt,cM,List.getElem_map]
    have:=pW n.nds[i] s l
    rw [rf] at this
    exact this
  h4:=fun i a=>by
    simp only [bt,List.getElem_map]
    obtain ⟨g1,g2⟩:=bo hr
    have e1:=me (bX (d8 (n.nds[i]'(by simpa [bt] using a)) s l))
    have e2:(bX (d8 (n.nds[i]'(by simpa [bt] using a)) s l)).length=(d8 (n.nds[i]'(by simpa [bt] using a)) s l).length:=List.length_mergeSort _
    have e3:=m7 (n.nds[i]'(by simpa [bt] using a)) s l (fun r hr'=>(cK (g2 r hr')).1)
    omega
theorem Mk.len {nds:List Node} {m ms:List (List Int)} (h:Mk nds m ms) (i:Nat) (a:i < m.length) (b:i < ms.length):0 < ms[i].length∧ms[i].length≤100000∧(bif ilt (1:Int) (Int.ofNat m[i].length) then Int.ofNat m[i].length else (1:Int))=(ms[i].length:Int):=by
  have hb:=h.h4 i a
  rcases h.h3 i a b (by rw [← h.h1]; exact a) with ⟨e1,e2⟩ | ⟨e1,e2⟩
  · rw [e1,e2]; exact ⟨by simp,by simp,rfl⟩
  · have : 0 < m[i].length := List.length_pos_iff.2 e1
    rw [← e2]
    refine ⟨this,hb,?_⟩
    by_cases e:(1:Int) < Int.ofNat m[i].length
    · rw [aX e]; rfl
    · rw [aR e,cond_false]; simp at e; omega
theorem lg:∀ {L:List Nat},(∀ a∈L,0 < a)→0 < cd L:=by
  intro L
  induction L with
  | nil=>intro _; simp [cd]
  | cons a L ih=>intro h; exact Nat.mul_pos (h a (by simp)) (ih fun x hx=>h x (by simp [hx]))
noncomputable def dw (ms:List (List Int)) (k:Nat):List Nat:=(eV (ms.map (·.length)).reverse k).reverse
noncomputable def cC (ms:List (List Int)) (k:Nat):List Int:=(dw ms k).map Int.ofNat
theorem c9 (ms:List (List Int)) (k:Nat):(dw ms k).length=ms.length:=by simp [dw,eR]
theorem jo {ms:List (List Int)} (hm:∀ (i:Nat) (h:i < ms.length),0 < ms[i].length) (k i:Nat) (a:i < (dw ms k).length) (b:i < ms.length):(dw ms k)[i] < ms[i].length:=by
  have hp:∀ x∈(ms.map (·.length)).reverse,0 < x:=fun x hx=>by
    simp only [List.mem_reverse,List.mem_map] at hx
    obtain ⟨y,hy,rfl⟩:=hx
    obtain ⟨j,hj,rfl⟩:=List.getElem_of_mem hy
    exact hm j hj
  have hl:=eR (ms.map (·.length)).reverse k
  simp only [List.length_reverse,List.length_map] at hl
  refine rV _ k hp (ms.length - 1 - i) _ _ ?_ ?_
  · have : (dw ms k)[i]? = some (dw ms k)[i] := List.getElem?_eq_getElem a
    conv at this=>lhs; rw [dw,List.getElem?_reverse (by rw [hl]; exact b),hl]
    exact this
  · rw [List.getElem?_reverse (by simp; omega)]
    simp only [List.length_map]
    rw [show ms.length - 1 - (ms.length - 1 - i)=i by omega,List.getElem?_map,List.getElem?_eq_getElem b]
    rfl
theorem li (ms:List (List Int)):cC ms 0=List.replicate ms.length 0:=by
  simp [cC,dw,pL]
namespace comp1
noncomputable def bd:Code:=(Tryz.f72.body).getD .skip
noncomputable def X:Ctx U El:=⟨E,tds,zeros,eqs,aC [(61,cc11C.sp)],100000,15,ap [],fun _=>none⟩
noncomputable def nmR:Norm U:=⟨[],[7],[1000000001,1000000002,1000000003,1000000004,1000000005],[],[],[],[(1000000005,0,.int)]⟩
noncomputable def RR:ab U El:=fun st=>aE nmR st (jd [7])
noncomputable def nm1:Norm U:=⟨[],[4],[1000000001,1000000002,1000000003,1000000004,1000000005],[],[],[],[(1000000001,0,.rule),(1000000003,0,.node),(1000000003,1,.link),(1000000005,0,.int)]⟩
abbrev Y1:=(List Rule)→(List UInt8)→(List Node)→(List Lnk)→Bool→(List Int)→R
noncomputable def fr0 (v:List Int) (l:List Rule) (s:List UInt8) (nds:List Node) (lks:List Lnk) (cm:Bool) (gap:List Int):St U El:=⟨[(0,(.ful 1000000000)),(1,(.ptr 1000000001 0)),(2,(.ptr 1000000002 0)),(3,(.ptr 1000000003 0)),(4,(.ptr 1000000004 0)),(5,(.ptr 1000000005 0))],[(1000000000,(.rows .int v)),(1000000001,(.box 1000000001 [(.lst .rule l)])),(1000000002,(.box 1000000002 [(.str s)])),(1000000003,(.box 1000000003 [(.lst .node nds),(.lst .link lks)])),(1000000004,(.box 1000000004 [(.bool cm)])),(1000000005,(.box 1000000005 [(.lst .int gap)]))]⟩
noncomputable def fr1 (bA:List Rule) (aA:List UInt8) (cA:List Node) (qA:List Lnk) (jA:Bool) (yA:List Int):St U El:=⟨[(4,(.ptr 1000000004 0))],[(1000000001,(.box 1000000001 [(.lst .rule bA)])),(1000000002,(.box 1000000002 [(.str aA)])),(1000000003,(.box 1000000003 [(.lst .node cA),(.lst .link qA)])),(1000000004,(.box 1000000004 [(.bool jA)])),(1000000005,(.box 1000000005 [(.lst .int yA)]))]⟩
noncomputable def sh0 (v:List Int) (l:List Rule) (s:List UInt8) (nds:List Node) (lks:List Lnk) (cm:Bool) (gap:List Int) (k1:Y1):R :=
  chk ((nle (List.length l) 90000&&List.all l (bl nds v))) (aa (!(List.any l (dy s nds v))) (k1 l s nds lks (List.any l (dy s nds v)) v) (k1 l s nds lks (List.any l (dy s nds v)) gap))
noncomputable def sh1 (bA:List Rule) (aA:List UInt8) (cA:List Node) (qA:List Lnk) (jA:Bool) (yA:List Int):R :=
  some ((.bool jA),[(1000000001,(.box 1000000001 [(.lst .rule bA)])),(1000000002,(.box 1000000002 [(.str aA)])),(1000000003,(.box 1000000003 [(.lst .node cA),(.lst .link qA)])),(1000000004,(.box 1000000004 [(.bool jA)])),(1000000005,(.box 1000000005 [(.lst .int yA)]))])
noncomputable def ct1:ab U El:=fun st=>ac X (cdp [1,1,1] bd) .d st RR (fun _ _=>none) RR
theorem P0 (v l s nds lks cm gap):ac X (cdp [] bd) (.seq none .d (.seq none .d (.seq (some nm1) .d .d))) (fr0 v l s nds lks cm gap) RR (fun _ _=>none) RR=sh0 v l s nds lks cm gap (fun y0 y1 y2 y3 y4 y5=>(hid ct1) (fr1 y0 y1 y2 y3 y4 y5)):=by kernel_rfl
theorem P1 (bA aA cA qA jA yA):ct1 (fr1 bA aA cA qA jA yA)=sh1 bA aA cA qA jA yA:=by kernel_rfl
noncomputable def f1 (bA:List Rule) (aA:List UInt8) (cA:List Node) (qA:List Lnk) (jA:Bool) (yA:List Int):R:=sh1 bA aA cA qA jA yA
noncomputable def f0 (v:List Int) (l:List Rule) (s:List UInt8) (nds:List Node) (lks:List Lnk) (cm:Bool) (gap:List Int):R:=sh0 v l s nds lks cm gap f1
theorem T1 (bA aA cA qA jA yA):(hid ct1) (fr1 bA aA cA qA jA yA)=f1 bA aA cA qA jA yA:=by
  refine (congrFun (ai _) _).trans <| (P1 bA aA cA qA jA yA).trans ?_
  show _=sh1 bA aA cA qA jA yA
  rfl
theorem T0 (v l s nds lks cm gap):ac X bd (.seq none .d (.seq none .d (.seq (some nm1) .d .d))) (fr0 v l s nds lks cm gap) RR (fun _ _=>none) RR=f0 v l s nds lks cm gap:=by
  refine (P0 v l s nds lks cm gap).trans ?_
  show _=sh0 v l s nds lks cm gap f1
  simp only [T1]
theorem run (v l s nds lks cm gap):pC X bd (.seq none .d (.seq none .d (.seq (some nm1) .d .d))) nmR [7] [(1000000000,(.rows .int v)),(1000000001,(.box 1000000001 [(.lst .rule l)])),(1000000002,(.box 1000000002 [(.str s)])),(1000000003,(.box 1000000003 [(.lst .node nds),(.lst .link lks)])),(1000000004,(.box 1000000004 [(.bool cm)])),(1000000005,(.box 1000000005 [(.lst .int gap)]))] [(.ful 1000000000),(.ptr 1000000001 0),(.ptr 1000000002 0),(.ptr 1000000003 0),(.ptr 1000000004 0),(.ptr 1000000005 0)]=f0 v l s nds lks cm gap:=T0 v l s nds lks cm gap
theorem f0_eq (v:List Int) (l:List Rule) (s:List UInt8) (nds:List Node) (lks:List Lnk) (cm:Bool) (gap:List Int) (h:(nle (List.length l) 90000&&List.all l (bl nds v))=true) :
    f0 v l s nds lks cm gap=some (.bool (dz l s nds v),[(1000000001,.box 1000000001 [.lst .rule l]),(1000000002,.box 1000000002 [.str s]),(1000000003,.box 1000000003 [.lst .node nds,.lst .link lks]),(1000000004,.box 1000000004 [.bool (dz l s nds v)]),(1000000005,.box 1000000005 [.lst .int (bif dz l s nds v then gap else v)])]):=by
  show sh0 v l s nds lks cm gap f1=_
  unfold sh0
  rw [h]
  unfold dz
  cases List.any l (dy s nds v)<;>rfl
theorem ok:CtxOk Tryz.prog X:=aI tab (spC cc11C.spOk spN) dpN
theorem okM:MOk Tryz.prog X:=fun g sp h=>by cases h
theorem spec (v:List Int) (l:List Rule) (s:List UInt8) (nds:List Node) (lks:List Lnk) (cm:Bool) (gap:List Int) (h:((nle (List.length l) 90000&&List.all l (bl nds v)))=true):gl Tryz.prog E 72 [(.ful 1000000000),(.ptr 1000000001 0),(.ptr 1000000002 0),(.ptr 1000000003 0),(.ptr 1000000004 0),(.ptr 1000000005 0)] [(1000000000,(.rows .int v)),(1000000001,(.box 1000000001 [(.lst .rule l)])),(1000000002,(.box 1000000002 [(.str s)])),(1000000003,(.box 1000000003 [(.lst .node nds),(.lst .link lks)])),(1000000004,(.box 1000000004 [(.bool cm)])),(1000000005,(.box 1000000005 [(.lst .int gap)]))] (.bool (dz l s nds v)) [(1000000001,(.box 1000000001 [(.lst .rule l)])),(1000000002,(.box 1000000002 [(.str s)])),(1000000003,(.box 1000000003 [(.lst .node nds),(.lst .link lks)])),(1000000004,(.box 1000000004 [(.bool (dz l s nds v))])),(1000000005,(.box 1000000005 [(.lst .int ((bif dz l s nds v then gap else v)))]))] :=
  eE ok okM Tryz.func72 (by kernel_rfl) (by kernel_rfl) (by kernel_rfl) (by show 6≤15; decide) ((run v l s nds lks cm gap).trans (f0_eq v l s nds lks cm gap h))
noncomputable def sp:MSp U El:=fun args hs k=>match args,hs with
  | [.ful q0,.ptr q1 0,.ptr q2 0,.ptr q3 0,.ptr q4 0,.ptr q5 0],[(q6,.rows .int v),(q7,.box q8 [.lst .rule l]),(q9,.box q10 [.str s]),(q11,.box q12 [.lst .node nds,.lst .link lks]),(q13,.box q14 [.bool cm]),(q15,.box q16 [.lst .int gap])]=>chk (Nat.beq q0 1000000000&&(Nat.beq q1 1000000001&&(Nat.beq q2 1000000002&&(Nat.beq q3 1000000003&&(Nat.beq q4 1000000004&&(Nat.beq q5 1000000005&&(Nat.beq q6 1000000000&&(Nat.beq q7 1000000001&&(Nat.beq q8 1000000001&&(Nat.beq q9 1000000002&&(Nat.beq q10 1000000002&&(Nat.beq q11 1000000003&&(Nat.beq q12 1000000003&&(Nat.beq q13 1000000004&&(Nat.beq q14 1000000004&&(Nat.beq q15 1000000005&&(Nat.beq q16 1000000005&&true))))))))))))))))) (chk ((nle (List.length l) 90000&&List.all l (bl nds v))) (k (.bool (dz l s nds v)) [(1000000001,(.box 1000000001 [(.lst .rule l)])),(1000000002,(.box 1000000002 [(.str s)])),(1000000003,(.box 1000000003 [(.lst .node nds),(.lst .link lks)])),(1000000004,(.box 1000000004 [(.bool (dz l s nds v))])),(1000000005,(.box 1000000005 [(.lst .int ((bif dz l s nds v then gap else v)))]))]))
  | _,_=>none
theorem spOk:jE Tryz.prog E 72 sp:=⟨Tryz.call72,fun args hs k r h=>by
  unfold sp at h
  split at h
  · obtain ⟨hq, hA⟩ := af h
    clear h
    simp only [Bool.and_eq_true] at hq
    obtain ⟨e0,e1,e2,e3,e4,e5,e6,e7,e8,e9,e10,e11,e12,e13,e14,e15,e16,_⟩:=hq
    cases Nat.eq_of_beq_eq_true e0
    cases Nat.eq_of_beq_eq_true e1
    cases Nat.eq_of_beq_eq_true e2
    cases Nat.eq_of_beq_eq_true e3
    cases Nat.eq_of_beq_eq_true e4
    cases Nat.eq_of_beq_eq_true e5
    cases Nat.eq_of_beq_eq_true e6
    cases Nat.eq_of_beq_eq_true e7
    cases Nat.eq_of_beq_eq_true e8
    cases Nat.eq_of_beq_eq_true e9
    cases Nat.eq_of_beq_eq_true e10
    cases Nat.eq_of_beq_eq_true e11
    cases Nat.eq_of_beq_eq_true e12
    cases Nat.eq_of_beq_eq_true e13
    cases Nat.eq_of_beq_eq_true e14
    cases Nat.eq_of_beq_eq_true e15
    cases Nat.eq_of_beq_eq_true e16
    obtain ⟨h1,hB⟩:=af hA
    exact ⟨_,_,spec _ _ _ _ _ _ _ h1,hB⟩
  · cases h⟩
theorem spDet:∀ args hs,∃ oo:Option (AV U El×aK U El),∀ k,sp args hs k=oo.bind fun p=>k p.1 p.2:=fun args hs=>by
  unfold sp
  split
  · exact cY (cY ⟨some (_,_),fun _=>rfl⟩)
  · exact ⟨none,fun _=>rfl⟩
end comp1
namespace cov1
noncomputable def bd:Code:=(Tryz.f75.body).getD .skip
noncomputable def X:Ctx U El:=⟨E,tds,zeros,eqs,aC [(74,holds.sp)],100000,58,ap [],fun _=>none⟩
noncomputable def nmR:Norm U:=⟨[],[6],[1000000001,1000000002,1000000003,1000000004],[],[],[],[]⟩
noncomputable def RR:ab U El:=fun st=>aE nmR st (jd [6])
noncomputable def nm1:Norm U:=⟨[],[4],[1000000001,1000000002,1000000003,1000000004],[],[],[],[(1000000001,0,.rule),(1000000003,0,.node),(1000000003,1,.link)]⟩
noncomputable def nm2:Norm U:=⟨[],[0,1,2,3,4,17,18,19],[1000000001,1000000002,1000000003,1000000004,1000000000],[],[],[],[(1000000001,0,.rule),(1000000003,0,.node),(1000000003,1,.link)]⟩
noncomputable def nm3:Norm U:=⟨[],[0,1,2,3,4,17,18,19],[1000000001,1000000002,1000000003,1000000004,1000000000],[],[],[],[(1000000001,0,.rule),(1000000003,0,.node),(1000000003,1,.link)]⟩
abbrev Y1:=(List Rule)→Int→(List Node)→(List Lnk)→Bool→R
abbrev Y2:=(List Rule)→Int→Int→(List Rule)→Int→(List Node)→(List Lnk)→Bool→(List Int)→R
abbrev Y3:=(List Rule)→Int→Int→(List Rule)→Int→(List Node)→(List Lnk)→Bool→(List Int)→R
noncomputable def fr0 (v:List Int) (l:List Rule) (kk:Int) (nds:List Node) (lks:List Lnk) (cv:Bool):St U El:=⟨[(0,(.ful 1000000000)),(1,(.ptr 1000000001 0)),(2,(.ptr 1000000002 0)),(3,(.ptr 1000000003 0)),(4,(.ptr 1000000004 0))],[(1000000000,(.rows .int v)),(1000000001,(.box 1000000001 [(.lst .rule l)])),(1000000002,(.box 1000000002 [(.int .i64 kk)])),(1000000003,(.box 1000000003 [(.lst .node nds),(.lst .link lks)])),(1000000004,(.box 1000000004 [(.bool cv)]))]⟩
noncomputable def fr1 (bA:List Rule) (aA:Int) (cA:List Node) (qA:List Lnk) (jA:Bool):St U El:=⟨[(4,(.ptr 1000000004 0))],[(1000000001,(.box 1000000001 [(.lst .rule bA)])),(1000000002,(.box 1000000002 [(.int .i64 aA)])),(1000000003,(.box 1000000003 [(.lst .node cA),(.lst .link qA)])),(1000000004,(.box 1000000004 [(.bool jA)]))]⟩
noncomputable def fr2 (xA:List Rule) (aB:Int) (wA:Int) (bA:List Rule) (aA:Int) (cA:List Node) (qA:List Lnk) (jA:Bool) (zA:List Int):St U El:=⟨[(0,(.ful 1000000000)),(1,(.ptr 1000000001 0)),(2,(.ptr 1000000002 0)),(3,(.ptr 1000000003 0)),(4,(.ptr 1000000004 0)),(17,(.lst .rule xA)),(18,(.int .i64 aB)),(19,(.int .i64 wA))],[(1000000001,(.box 1000000001 [(.lst .rule bA)])),(1000000002,(.box 1000000002 [(.int .i64 aA)])),(1000000003,(.box 1000000003 [(.lst .node cA),(.lst .link qA)])),(1000000004,(.box 1000000004 [(.bool jA)])),(1000000000,(.rows .int zA))]⟩
noncomputable def fr3 (xA:List Rule) (aB:Int) (wA:Int) (bA:List Rule) (aA:Int) (cA:List Node) (qA:List Lnk) (jA:Bool) (zA:List Int):St U El:=⟨[(0,(.ful 1000000000)),(1,(.ptr 1000000001 0)),(2,(.ptr 1000000002 0)),(3,(.ptr 1000000003 0)),(4,(.ptr 1000000004 0)),(17,(.lst .rule xA)),(18,(.int .i64 aB)),(19,(.int .i64 wA))],[(1000000001,(.box 1000000001 [(.lst .rule bA)])),(1000000002,(.box 1000000002 [(.int .i64 aA)])),(1000000003,(.box 1000000003 [(.lst .node cA),(.lst .link qA)])),(1000000004,(.box 1000000004 [(.bool jA)])),(1000000000,(.rows .int zA))]⟩
noncomputable def sh0 (v:List Int) (l:List Rule) (kk:Int) (nds:List Node) (lks:List Lnk) (cv:Bool) (k2:Y2):R :=
  chk (inb kk (List.length l)) (chk ((nle (List.length (Rule.rw (List.getD l (Int.toNat kk) az))) 90000&&List.all (Rule.rw (List.getD l (Int.toNat kk) az)) (bO (Net.nds (⟨nds,lks⟩:Net)) v))) (aa (!(dv (Net.nds (⟨nds,lks⟩:Net)) v (Rule.rw (List.getD l (Int.toNat kk) az)))) (some ((.bool true),[(1000000001,(.box 1000000001 [(.lst .rule l)])),(1000000002,(.box 1000000002 [(.int .i64 kk)])),(1000000003,(.box 1000000003 [(.lst .node nds),(.lst .link lks)])),(1000000004,(.box 1000000004 [(.bool cv)]))])) (k2 l (Int.ofNat (List.length l)) (0:Int) l kk nds lks false v)))
noncomputable def sh1 (bA:List Rule) (aA:Int) (cA:List Node) (qA:List Lnk) (jA:Bool):R :=
  some ((.bool jA),[(1000000001,(.box 1000000001 [(.lst .rule bA)])),(1000000002,(.box 1000000002 [(.int .i64 aA)])),(1000000003,(.box 1000000003 [(.lst .node cA),(.lst .link qA)])),(1000000004,(.box 1000000004 [(.bool jA)]))])
noncomputable def sh2 (xA:List Rule) (aB:Int) (wA:Int) (bA:List Rule) (aA:Int) (cA:List Node) (qA:List Lnk) (jA:Bool) (zA:List Int) (k1:Y1) (k3:Y3):R :=
  aa (ilt wA aB) (chk (inb wA (List.length xA)) (aa jA (k3 xA aB wA bA aA cA qA true zA) (aa (wA != aA) (chk (inb aA (List.length bA)) (aa (((List.getD xA (Int.toNat wA) az).rl) == ((List.getD bA (Int.toNat aA) az).rl)) (chk (inb aA (List.length bA)) (aa ((List.getD xA (Int.toNat wA) az).rs == (List.getD bA (Int.toNat aA) az).rs) (chk ((nle (List.length (Rule.rw (List.getD xA (Int.toNat wA) az))) 90000&&List.all (Rule.rw (List.getD xA (Int.toNat wA) az)) (bO (Net.nds (⟨cA,qA⟩:Net)) zA))) (k3 xA aB wA bA aA cA qA (dv (Net.nds (⟨cA,qA⟩:Net)) zA (Rule.rw (List.getD xA (Int.toNat wA) az))) zA)) (k3 xA aB wA bA aA cA qA false zA))) (k3 xA aB wA bA aA cA qA false zA))) (k3 xA aB wA bA aA cA qA false zA)))) (k1 bA aA cA qA jA)
noncomputable def sh3 (xA:List Rule) (aB:Int) (wA:Int) (bA:List Rule) (aA:Int) (cA:List Node) (qA:List Lnk) (jA:Bool) (zA:List Int) (k2:Y2):R :=
  k2 xA aB (IntKind.wrap .i64 (wA+(1:Int))) bA aA cA qA jA zA
noncomputable def it2 (Kb1:ab U El) (n:Nat):ab U El:=bw nm2 (fun st' K'=>ac X (cdp [1,1,1,0,1,0,0] bd) (.seq none .d (.seq none .d (.seq (some nm3) (.block (.seq none .d (.region [(32,1000000004)]))) .d))) st' K' (aq 0 (ah nm1 Kb1) (fun _ _=>none)) RR) n
noncomputable def ct1:ab U El:=fun st=>ac X (cdp [1,1,1,1] bd) .d st RR (fun _ _=>none) RR
noncomputable def ct3 (Kb1 Kb2:ab U El):ab U El:=fun st=>ac X (cdp [1,1,1,0,1,0,0,1,1,1] bd) .d st (ah nm2 Kb2) (aq 0 (ah nm1 Kb1) (fun _ _=>none)) RR
theorem P0 (v l kk nds lks cv):ac X (cdp [] bd) (.seq none .d (.seq none .d (.seq none .d (.seq (some nm1) (.seq none .d (.block (.loop nm2 (.seq none .d (.seq none .d (.seq (some nm3) (.block (.seq none .d (.region [(32,1000000004)]))) .d)))))) .d)))) (fr0 v l kk nds lks cv) RR (fun _ _=>none) RR=sh0 v l kk nds lks cv (fun y0 y1 y2 y3 y4 y5 y6 y7 y8=>(hid (it2 (hid ct1) 100000)) (fr2 y0 y1 y2 y3 y4 y5 y6 y7 y8)):=by kernel_rfl
theorem P1 (bA aA cA qA jA):ct1 (fr1 bA aA cA qA jA)=sh1 bA aA cA qA jA:=by kernel_rfl
theorem P2 (xA aB wA bA aA cA qA jA zA) (Kb1 Kb2:ab U El):ac X (cdp [1,1,1,0,1,0,0] bd) (.seq none .d (.seq none .d (.seq (some nm3) (.block (.seq none .d (.region [(32,1000000004)]))) .d))) (fr2 xA aB wA bA aA cA qA jA zA) (ah nm2 Kb2) (aq 0 (ah nm1 Kb1) (fun _ _=>none)) RR=sh2 xA aB wA bA aA cA qA jA zA (fun y0 y1 y2 y3 y4=>Kb1 (fr1 y0 y1 y2 y3 y4)) (fun y0 y1 y2 y3 y4 y5 y6 y7 y8=>(hid (ct3 Kb1 Kb2)) (fr3 y0 y1 y2 y3 y4 y5 y6 y7 y8)):=by kernel_rfl
theorem P3 (xA aB wA bA aA cA qA jA zA) (Kb1 Kb2:ab U El):ct3 Kb1 Kb2 (fr3 xA aB wA bA aA cA qA jA zA)=sh3 xA aB wA bA aA cA qA jA zA (fun y0 y1 y2 y3 y4 y5 y6 y7 y8=>Kb2 (fr2 y0 y1 y2 y3 y4 y5 y6 y7 y8)):=by kernel_rfl
noncomputable def f1 (bA:List Rule) (aA:Int) (cA:List Node) (qA:List Lnk) (jA:Bool):R:=sh1 bA aA cA qA jA
noncomputable def f3 (k2:Y2) (xA:List Rule) (aB:Int) (wA:Int) (bA:List Rule) (aA:Int) (cA:List Node) (qA:List Lnk) (jA:Bool) (zA:List Int):R:=sh3 xA aB wA bA aA cA qA jA zA k2
noncomputable def f2:Nat→Y2
  | 0=>fun _ _ _ _ _ _ _ _ _=>none
  | n+1=>fun xA aB wA bA aA cA qA jA zA=>sh2 xA aB wA bA aA cA qA jA zA f1 (f3 (f2 n))
noncomputable def f0 (v:List Int) (l:List Rule) (kk:Int) (nds:List Node) (lks:List Lnk) (cv:Bool):R:=sh0 v l kk nds lks cv (f2 100000)
theorem T1 (bA aA cA qA jA):(hid ct1) (fr1 bA aA cA qA jA)=f1 bA aA cA qA jA:=by
  refine (congrFun (ai _) _).trans <| (P1 bA aA cA qA jA).trans ?_
  show _=sh1 bA aA cA qA jA
  rfl
theorem T3 (KL2:ab U El) (k2:Y2) (h2:∀ xA aB wA bA aA cA qA jA zA,KL2 (fr2 xA aB wA bA aA cA qA jA zA)=k2 xA aB wA bA aA cA qA jA zA) (xA aB wA bA aA cA qA jA zA):(hid (ct3 (hid ct1) KL2)) (fr3 xA aB wA bA aA cA qA jA zA)=f3 k2 xA aB wA bA aA cA qA jA zA:=by
  refine (congrFun (ai _) _).trans <| (P3 xA aB wA bA aA cA qA jA zA (hid ct1) KL2).trans ?_
  show _=sh3 xA aB wA bA aA cA qA jA zA k2
  simp only [h2]
theorem T2:∀ (n:Nat),∀ xA aB wA bA aA cA qA jA zA,it2 (hid ct1) n (fr2 xA aB wA bA aA cA qA jA zA)=f2 n xA aB wA bA aA cA qA jA zA:=by
  intro n
  induction n with
  | zero=>intros; rfl
  | succ n ih =>
    intro xA aB wA bA aA cA qA jA zA
    refine (P2 xA aB wA bA aA cA qA jA zA (hid ct1) (it2 (hid ct1) n)).trans ?_
    show _=sh2 xA aB wA bA aA cA qA jA zA f1 (f3 (f2 n))
    simp only [T1,T3 (it2 (hid ct1) n) (f2 n) ih]
theorem H2 (xA aB wA bA aA cA qA jA zA):hid (it2 (hid ct1) 100000) (fr2 xA aB wA bA aA cA qA jA zA)=f2 100000 xA aB wA bA aA cA qA jA zA:=(congrFun (ai _) _).trans (T2 100000 xA aB wA bA aA cA qA jA zA)
theorem T0 (v l kk nds lks cv):ac X bd (.seq none .d (.seq none .d (.seq none .d (.seq (some nm1) (.seq none .d (.block (.loop nm2 (.seq none .d (.seq none .d (.seq (some nm3) (.block (.seq none .d (.region [(32,1000000004)]))) .d)))))) .d)))) (fr0 v l kk nds lks cv) RR (fun _ _=>none) RR=f0 v l kk nds lks cv:=by
  refine (P0 v l kk nds lks cv).trans ?_
  show _=sh0 v l kk nds lks cv (f2 100000)
  simp only [H2]
theorem run (v l kk nds lks cv):pC X bd (.seq none .d (.seq none .d (.seq none .d (.seq (some nm1) (.seq none .d (.block (.loop nm2 (.seq none .d (.seq none .d (.seq (some nm3) (.block (.seq none .d (.region [(32,1000000004)]))) .d)))))) .d)))) nmR [6] [(1000000000,(.rows .int v)),(1000000001,(.box 1000000001 [(.lst .rule l)])),(1000000002,(.box 1000000002 [(.int .i64 kk)])),(1000000003,(.box 1000000003 [(.lst .node nds),(.lst .link lks)])),(1000000004,(.box 1000000004 [(.bool cv)]))] [(.ful 1000000000),(.ptr 1000000001 0),(.ptr 1000000002 0),(.ptr 1000000003 0),(.ptr 1000000004 0)]=f0 v l kk nds lks cv:=T0 v l kk nds lks cv
noncomputable def ret (b:Bool) (l:List Rule) (kk:Int) (nds:List Node) (lks:List Lnk) (cv:Bool):R:=some (.bool b,[(1000000001,.box 1000000001 [.lst .rule l]),(1000000002,.box 1000000002 [.int .i64 kk]),(1000000003,.box 1000000003 [.lst .node nds,.lst .link lks]),(1000000004,.box 1000000004 [.bool cv])])
theorem loop (l : List Rule) (kk : Int) (nds : List Node) (lks : List Lnk) (v : List Int) (hl : l.length ≤ 90000) (hk : dt l kk = true) (ha : List.all l (bl nds v) = true) : ∀ (n i : Nat) (b : Bool), l.length < n + i → i ≤ l.length →
    f2 n l (Int.ofNat l.length) (i:Int) l kk nds lks b v=ret (b||ke (m4 l kk nds v) i (l.drop i)) l kk nds lks (b||ke (m4 l kk nds v) i (l.drop i)):=by
  intro n
  induction n with
  | zero=>intro i b h1 h2; omega
  | succ n ih =>
    intro i b h1 h2
    show sh2 l (Int.ofNat l.length) (i:Int) l kk nds lks b v f1 (f3 (f2 n))=_
    unfold sh2
    by_cases hi:i < l.length
    · have h3 : ∀ b', f3 (f2 n) l (Int.ofNat l.length) (i : Int) l kk nds lks b' v = ret (b' || ke (m4 l kk nds v) (i + 1) (l.drop (i + 1))) l kk nds lks (b' || ke (m4 l kk nds v) (i + 1) (l.drop (i + 1))) := fun b' => by
        show f2 n l (Int.ofNat l.length) (IntKind.wrap .i64 ((i:Int)+1)) l kk nds lks b' v=_
        rw [bD i (by omega)]
        exact ih (i+1) b' (by omega) hi
      have hx:(nle (List.length l[i].rw) 90000&&List.all l[i].rw (bO nds v))=true:=List.all_eq_true.1 ha _ (List.getElem_mem hi)
      have hx':(nle (List.length (Rule.rw l[i])) 90000&&List.all (Rule.rw l[i]) (bO (Net.nds (⟨nds,lks⟩:Net)) v))=true:=hx
      rw [aX (by simp; omega),aW hi,ak,ar hi,bc hi,(hU hk).1,hx']
      simp only [bG,bL,h3,ke]
      cases b
      · unfold m4
        simp only [Bool.false_or]
        cases (i:Int) != kk
        · rfl
        · cases l[i].rl == (List.getD l (Int.toNat kk) az).rl
          · rfl
          · cases l[i].rs == (List.getD l (Int.toNat kk) az).rs<;>rfl
      · rfl
    · have : i = l.length := by omega
      subst this
      rw [aR (by simp),List.drop_length]
      simp only [ke,Bool.or_false]
      rfl
theorem f0_eq (v:List Int) (l:List Rule) (kk:Int) (nds:List Node) (lks:List Lnk) (cv:Bool) (h:(dt l kk&&(nle (List.length l) 90000&&List.all l (bl nds v)))=true) :
    f0 v l kk nds lks cv=ret (bif dC l kk nds v then ia l kk nds v else true) l kk nds lks (bif dC l kk nds v then ia l kk nds v else cv):=by
  simp only [Bool.and_eq_true] at h
  obtain ⟨h1,h2,h3⟩:=h
  obtain ⟨p1,p2⟩:=hU h1
  have hx:(nle (List.length (Rule.rw (List.getD l (Int.toNat kk) az))) 90000&&List.all (Rule.rw (List.getD l (Int.toNat kk) az)) (bO (Net.nds (⟨nds,lks⟩:Net)) v))=true:=List.all_eq_true.1 h3 _ p2
  show sh0 v l kk nds lks cv (f2 100000)=_
  unfold sh0
  rw [p1,hx]
  have e:=loop l kk nds lks v (bQ h2) h1 h3 100000 0 false (by have:=bQ h2; omega) (by omega)
  have hk:dv (Net.nds (⟨nds,lks⟩:Net)) v (Rule.rw (List.getD l (Int.toNat kk) az))=dC l kk nds v:=rfl
  rw [hk]
  cases dC l kk nds v
  · rfl
  · exact e
theorem ok:CtxOk Tryz.prog X:=aI tab (spC holds.spOk spN) dpN
theorem okM:MOk Tryz.prog X:=fun g sp h=>by cases h
theorem spec (v:List Int) (l:List Rule) (kk:Int) (nds:List Node) (lks:List Lnk) (cv:Bool) (h:((dt l kk&&(nle (List.length l) 90000&&List.all l (bl nds v))))=true):gl Tryz.prog E 75 [(.ful 1000000000),(.ptr 1000000001 0),(.ptr 1000000002 0),(.ptr 1000000003 0),(.ptr 1000000004 0)] [(1000000000,(.rows .int v)),(1000000001,(.box 1000000001 [(.lst .rule l)])),(1000000002,(.box 1000000002 [(.int .i64 kk)])),(1000000003,(.box 1000000003 [(.lst .node nds),(.lst .link lks)])),(1000000004,(.box 1000000004 [(.bool cv)]))] (.bool ((bif dC l kk nds v then ia l kk nds v else true))) [(1000000001,(.box 1000000001 [(.lst .rule l)])),(1000000002,(.box 1000000002 [(.int .i64 kk)])),(1000000003,(.box 1000000003 [(.lst .node nds),(.lst .link lks)])),(1000000004,(.box 1000000004 [(.bool ((bif dC l kk nds v then ia l kk nds v else cv)))]))] :=
  eE ok okM Tryz.func75 (by kernel_rfl) (by kernel_rfl) (by kernel_rfl) (by show 5≤58; decide) ((run v l kk nds lks cv).trans (f0_eq v l kk nds lks cv h))
noncomputable def sp:MSp U El:=fun args hs k=>match args,hs with
  | [.ful q0,.ptr q1 0,.ptr q2 0,.ptr q3 0,.ptr q4 0],[(q5,.rows .int v),(q6,.box q7 [.lst .rule l]),(q8,.box q9 [.int .i64 kk]),(q10,.box q11 [.lst .node nds,.lst .link lks]),(q12,.box q13 [.bool cv])]=>chk (Nat.beq q0 1000000000&&(Nat.beq q1 1000000001&&(Nat.beq q2 1000000002&&(Nat.beq q3 1000000003&&(Nat.beq q4 1000000004&&(Nat.beq q5 1000000000&&(Nat.beq q6 1000000001&&(Nat.beq q7 1000000001&&(Nat.beq q8 1000000002&&(Nat.beq q9 1000000002&&(Nat.beq q10 1000000003&&(Nat.beq q11 1000000003&&(Nat.beq q12 1000000004&&(Nat.beq q13 1000000004&&true)))))))))))))) (chk ((dt l kk&&(nle (List.length l) 90000&&List.all l (bl nds v)))) (k (.bool ((bif dC l kk nds v then ia l kk nds v else true))) [(1000000001,(.box 1000000001 [(.lst .rule l)])),(1000000002,(.box 1000000002 [(.int .i64 kk)])),(1000000003,(.box 1000000003 [(.lst .node nds),(.lst .link lks)])),(1000000004,(.box 1000000004 [(.bool ((bif dC l kk nds v then ia l kk nds v else cv)))]))]))
  | _,_=>none
theorem spOk:jE Tryz.prog E 75 sp:=⟨Tryz.call75,fun args hs k r h=>by
  unfold sp at h
  split at h
  · obtain ⟨hq, hA⟩ := af h
    clear h
    simp only [Bool.and_eq_true] at hq
    obtain ⟨e0,e1,e2,e3,e4,e5,e6,e7,e8,e9,e10,e11,e12,e13,_⟩:=hq
    cases Nat.eq_of_beq_eq_true e0
    cases Nat.eq_of_beq_eq_true e1
    cases Nat.eq_of_beq_eq_true e2
    cases Nat.eq_of_beq_eq_true e3
    cases Nat.eq_of_beq_eq_true e4
    cases Nat.eq_of_beq_eq_true e5
    cases Nat.eq_of_beq_eq_true e6
    cases Nat.eq_of_beq_eq_true e7
    cases Nat.eq_of_beq_eq_true e8
    cases Nat.eq_of_beq_eq_true e9
    cases Nat.eq_of_beq_eq_true e10
    cases Nat.eq_of_beq_eq_true e11
    cases Nat.eq_of_beq_eq_true e12
    cases Nat.eq_of_beq_eq_true e13
    obtain ⟨h1,hB⟩:=af hA
    exact ⟨_,_,spec _ _ _ _ _ _ h1,hB⟩
  · cases h⟩
theorem spDet:∀ args hs,∃ oo:Option (AV U El×aK U El),∀ k,sp args hs k=oo.bind fun p=>k p.1 p.2:=fun args hs=>by
  unfold sp
  split
  · exact cY (cY ⟨some (_,_),fun _=>rfl⟩)
  · exact ⟨none,fun _=>rfl⟩
end cov1
namespace cornersC
noncomputable def bd:Code:=(Tryz.f71.body).getD .skip
noncomputable def X:Ctx U El:=⟨E,tds,zeros,eqs,aC [(119,marks.sp)],100000,109,ap [],eP [(72,(pE comp1.sp))]⟩
noncomputable def nmR:Norm U:=⟨[],[8],[1000000000,1000000001,1000000002,1000000003,1000000004],[],[],[],[(1000000004,0,.int)]⟩
noncomputable def RR:ab U El:=fun st=>aE nmR st (jd [8])
noncomputable def nm1:Norm U:=⟨[(9,.ints)],[3,5,9,10],[9,5,1000000000,1000000001,1000000002,1000000003,1000000004],[],[],[],[(5,0,.node),(5,1,.link),(1000000000,0,.rule),(1000000002,0,.node),(1000000002,1,.link)]⟩
noncomputable def nm2:Norm U:=⟨[(9,.ints)],[3,5,9,10,22,23,24],[9,5,1000000000,1000000001,1000000002,1000000003,1000000004],[],[],[],[(5,0,.node),(5,1,.link),(1000000000,0,.rule),(1000000002,0,.node),(1000000002,1,.link)]⟩
noncomputable def nm3:Norm U:=⟨[],[],[1000000000,1000000001,1000000002,1000000003,1000000004],[],[],[],[(1000000000,0,.rule),(1000000002,0,.node),(1000000002,1,.link),(1000000004,0,.int)]⟩
noncomputable def nm4:Norm U:=⟨[(9,.ints),(13,.int)],[3,5,9,13,39,40],[9,13,5,1000000000,1000000001,1000000002,1000000003,1000000004],[],[],[],[(5,0,.node),(5,1,.link),(1000000000,0,.rule),(1000000002,0,.node),(1000000002,1,.link),(1000000004,0,.int)]⟩
noncomputable def nm5:Norm U:=⟨[(9,.ints),(13,.int)],[3,5,9,13,39,40],[9,13,5,1000000000,1000000001,1000000002,1000000003,1000000004],[],[],[],[(5,0,.node),(5,1,.link),(1000000000,0,.rule),(1000000002,0,.node),(1000000002,1,.link),(1000000004,0,.int)]⟩
noncomputable def nm6:Norm U:=⟨[(9,.ints),(13,.int),(14,.int)],[3,5,9,13,14,39,40],[9,13,14,5,1000000000,1000000001,1000000002,1000000003,1000000004],[],[],[],[(5,0,.node),(5,1,.link),(1000000000,0,.rule),(1000000002,0,.node),(1000000002,1,.link),(1000000004,0,.int)]⟩
noncomputable def nm7:Norm U:=⟨[(9,.ints),(13,.int),(14,.int)],[3,5,9,13,14,39,40,46,47,48],[9,13,14,5,1000000000,1000000001,1000000002,1000000003,1000000004],[],[],[],[(5,0,.node),(5,1,.link),(1000000000,0,.rule),(1000000002,0,.node),(1000000002,1,.link),(1000000004,0,.int)]⟩
noncomputable def nm8:Norm U:=⟨[(9,.ints),(13,.int),(14,.int)],[3,5,9,13,14,39,40,46,47,48],[9,13,14,5,1000000000,1000000001,1000000002,1000000003,1000000004],[],[],[],[(5,0,.node),(5,1,.link),(1000000000,0,.rule),(1000000002,0,.node),(1000000002,1,.link),(1000000004,0,.int)]⟩
noncomputable def nm9:Norm U:=⟨[(9,.ints),(13,.int)],[3,5,9,13,17,39,40],[9,13,5,1000000000,1000000001,1000000002,1000000003,1000000004],[],[],[],[(5,0,.node),(5,1,.link),(1000000000,0,.rule),(1000000002,0,.node),(1000000002,1,.link),(1000000004,0,.int)]⟩
abbrev Y1:=(List (List Int))→Int→(List Node)→(List Lnk)→(List Rule)→(List UInt8)→(List Node)→(List Lnk)→Bool→R
abbrev Y2:=(List (List Int))→Int→Int→Int→(List Node)→(List Lnk)→(List Rule)→(List UInt8)→(List Node)→(List Lnk)→Bool→R
abbrev Y3:=(List Rule)→(List UInt8)→(List Node)→(List Lnk)→Bool→(List Int)→R
abbrev Y4:=(List (List Int))→(List Int)→Int→Int→(List Node)→(List Lnk)→(List Rule)→(List UInt8)→(List Node)→(List Lnk)→Bool→(List Int)→R
abbrev Y5:=(List (List Int))→(List Int)→Int→Int→(List Node)→(List Lnk)→(List Rule)→(List UInt8)→(List Node)→(List Lnk)→Bool→(List Int)→R
abbrev Y6:=(List (List Int))→(List Int)→(List Int)→Int→Int→(List Node)→(List Lnk)→(List Rule)→(List UInt8)→(List Node)→(List Lnk)→Bool→(List Int)→R
abbrev Y7:=(List (List Int))→(List Int)→(List Int)→Int→Int→(List Node)→Int→Int→(List Node)→(List Lnk)→(List Rule)→(List UInt8)→(List Node)→(List Lnk)→Bool→(List Int)→R
abbrev Y8:=(List (List Int))→(List Int)→(List Int)→Int→Int→(List Node)→Int→Int→(List Node)→(List Lnk)→(List Rule)→(List UInt8)→(List Node)→(List Lnk)→Bool→(List Int)→R
abbrev Y9:=(List (List Int))→(List Int)→Int→Int→Int→(List Node)→(List Lnk)→(List Rule)→(List UInt8)→(List Node)→(List Lnk)→Bool→(List Int)→R
noncomputable def fr0 (l:List Rule) (n:Net) (s:List UInt8) (l2:List Rule) (s2:List UInt8) (lA:List Node) (pA:List Lnk) (cm:Bool):St U El:=⟨[(0,(.lst .rule l)),(1,(.agg [(.lst .node n.nds),(.lst .link n.lks)])),(2,(.str s)),(3,(.fn 72 [] [(.ptr 1000000000 0),(.ptr 1000000001 0),(.ptr 1000000002 0),(.ptr 1000000003 0),(.ptr 1000000004 0)]))],[(1000000000,(.box 1000000000 [(.lst .rule l2)])),(1000000001,(.box 1000000001 [(.str s2)])),(1000000002,(.box 1000000002 [(.lst .node lA),(.lst .link pA)])),(1000000003,(.box 1000000003 [(.bool cm)])),(1000000004,(.box 1000000004 [.nils]))]⟩
noncomputable def fr1 (m9:List (List Int)) (mA:Int) (gA:List Node) (iA:List Lnk) (dA:List Rule) (bA:List UInt8) (aA:List Node) (eA:List Lnk) (cA:Bool):St U El:=⟨[(3,(.fn 72 [] [(.ptr 1000000000 0),(.ptr 1000000001 0),(.ptr 1000000002 0),(.ptr 1000000003 0),(.ptr 1000000004 0)])),(5,(.ptr 5 0)),(9,(.ful 9)),(10,(.int .i64 mA))],[(9,(.rows .ints m9)),(5,(.box 0 [(.lst .node gA),(.lst .link iA)])),(1000000000,(.box 1000000000 [(.lst .rule dA)])),(1000000001,(.box 1000000001 [(.str bA)])),(1000000002,(.box 1000000002 [(.lst .node aA),(.lst .link eA)])),(1000000003,(.box 1000000003 [(.bool cA)])),(1000000004,(.box 1000000004 [.nils]))]⟩
noncomputable def fr2 (m9:List (List Int)) (mA:Int) (bB:Int) (vA:Int) (gA:List Node) (iA:List Lnk) (dA:List Rule) (bA:List UInt8) (aA:List Node) (eA:List Lnk) (cA:Bool):St U El:=⟨[(3,(.fn 72 [] [(.ptr 1000000000 0),(.ptr 1000000001 0),(.ptr 1000000002 0),(.ptr 1000000003 0),(.ptr 1000000004 0)])),(5,(.ptr 5 0)),(9,(.ful 9)),(10,(.int .i64 mA)),(22,(.ful 9)),(23,(.int .i64 bB)),(24,(.int .i64 vA))],[(9,(.rows .ints m9)),(5,(.box 0 [(.lst .node gA),(.lst .link iA)])),(1000000000,(.box 1000000000 [(.lst .rule dA)])),(1000000001,(.box 1000000001 [(.str bA)])),(1000000002,(.box 1000000002 [(.lst .node aA),(.lst .link eA)])),(1000000003,(.box 1000000003 [(.bool cA)])),(1000000004,(.box 1000000004 [.nils]))]⟩
noncomputable def fr3 (dA:List Rule) (bA:List UInt8) (aA:List Node) (eA:List Lnk) (cA:Bool) (jA:List Int):St U El:=⟨[],[(1000000000,(.box 1000000000 [(.lst .rule dA)])),(1000000001,(.box 1000000001 [(.str bA)])),(1000000002,(.box 1000000002 [(.lst .node aA),(.lst .link eA)])),(1000000003,(.box 1000000003 [(.bool cA)])),(1000000004,(.box 1000000004 [(.lst .int jA)]))]⟩
noncomputable def fr4 (m9:List (List Int)) (kA:List Int) (nA:Int) (oA:Int) (gA:List Node) (iA:List Lnk) (dA:List Rule) (bA:List UInt8) (aA:List Node) (eA:List Lnk) (cA:Bool) (jA:List Int):St U El:=⟨[(3,(.fn 72 [] [(.ptr 1000000000 0),(.ptr 1000000001 0),(.ptr 1000000002 0),(.ptr 1000000003 0),(.ptr 1000000004 0)])),(5,(.ptr 5 0)),(9,(.ful 9)),(13,(.ful 13)),(39,(.int .i64 nA)),(40,(.int .i64 oA))],[(9,(.rows .ints m9)),(13,(.rows .int kA)),(5,(.box 0 [(.lst .node gA),(.lst .link iA)])),(1000000000,(.box 1000000000 [(.lst .rule dA)])),(1000000001,(.box 1000000001 [(.str bA)])),(1000000002,(.box 1000000002 [(.lst .node aA),(.lst .link eA)])),(1000000003,(.box 1000000003 [(.bool cA)])),(1000000004,(.box 1000000004 [(.lst .int jA)]))]⟩
noncomputable def fr5 (m9:List (List Int)) (kA:List Int) (nA:Int) (oA:Int) (gA:List Node) (iA:List Lnk) (dA:List Rule) (bA:List UInt8) (aA:List Node) (eA:List Lnk) (cA:Bool) (jA:List Int):St U El:=⟨[(3,(.fn 72 [] [(.ptr 1000000000 0),(.ptr 1000000001 0),(.ptr 1000000002 0),(.ptr 1000000003 0),(.ptr 1000000004 0)])),(5,(.ptr 5 0)),(9,(.ful 9)),(13,(.ful 13)),(39,(.int .i64 nA)),(40,(.int .i64 oA))],[(9,(.rows .ints m9)),(13,(.rows .int kA)),(5,(.box 0 [(.lst .node gA),(.lst .link iA)])),(1000000000,(.box 1000000000 [(.lst .rule dA)])),(1000000001,(.box 1000000001 [(.str bA)])),(1000000002,(.box 1000000002 [(.lst .node aA),(.lst .link eA)])),(1000000003,(.box 1000000003 [(.bool cA)])),(1000000004,(.box 1000000004 [(.lst .int jA)]))]⟩
noncomputable def fr6 (m9:List (List Int)) (kA:List Int) (fA:List Int) (nA:Int) (oA:Int) (gA:List Node) (iA:List Lnk) (dA:List Rule) (bA:List UInt8) (aA:List Node) (eA:List Lnk) (cA:Bool) (jA:List Int):St U El:=⟨[(3,(.fn 72 [] [(.ptr 1000000000 0),(.ptr 1000000001 0),(.ptr 1000000002 0),(.ptr 1000000003 0),(.ptr 1000000004 0)])),(5,(.ptr 5 0)),(9,(.ful 9)),(13,(.ful 13)),(14,(.ful 14)),(39,(.int .i64 nA)),(40,(.int .i64 oA))],[(9,(.rows .ints m9)),(13,(.rows .int kA)),(14,(.rows .int fA)),(5,(.box 0 [(.lst .node gA),(.lst .link iA)])),(1000000000,(.box 1000000000 [(.lst .rule dA)])),(1000000001,(.box 1000000001 [(.str bA)])),(1000000002,(.box 1000000002 [(.lst .node aA),(.lst .link eA)])),(1000000003,(.box 1000000003 [(.bool cA)])),(1000000004,(.box 1000000004 [(.lst .int jA)]))]⟩
noncomputable def fr7 (m9:List (List Int)) (kA:List Int) (fA:List Int) (nA:Int) (oA:Int) (tA:List Node) (uA:Int) (rA:Int) (gA:List Node) (iA:List Lnk) (dA:List Rule) (bA:List UInt8) (aA:List Node) (eA:List Lnk) (cA:Bool) (jA:List Int):St U El:=⟨[(3,(.fn 72 [] [(.ptr 1000000000 0),(.ptr 1000000001 0),(.ptr 1000000002 0),(.ptr 1000000003 0),(.ptr 1000000004 0)])),(5,(.ptr 5 0)),(9,(.ful 9)),(13,(.ful 13)),(14,(.ful 14)),(39,(.int .i64 nA)),(40,(.int .i64 oA)),(46,(.lst .node tA)),(47,(.int .i64 uA)),(48,(.int .i64 rA))],[(9,(.rows .ints m9)),(13,(.rows .int kA)),(14,(.rows .int fA)),(5,(.box 0 [(.lst .node gA),(.lst .link iA)])),(1000000000,(.box 1000000000 [(.lst .rule dA)])),(1000000001,(.box 1000000001 [(.str bA)])),(1000000002,(.box 1000000002 [(.lst .node aA),(.lst .link eA)])),(1000000003,(.box 1000000003 [(.bool cA)])),(1000000004,(.box 1000000004 [(.lst .int jA)]))]⟩
noncomputable def fr8 (m9:List (List Int)) (kA:List Int) (fA:List Int) (nA:Int) (oA:Int) (tA:List Node) (uA:Int) (rA:Int) (gA:List Node) (iA:List Lnk) (dA:List Rule) (bA:List UInt8) (aA:List Node) (eA:List Lnk) (cA:Bool) (jA:List Int):St U El:=⟨[(3,(.fn 72 [] [(.ptr 1000000000 0),(.ptr 1000000001 0),(.ptr 1000000002 0),(.ptr 1000000003 0),(.ptr 1000000004 0)])),(5,(.ptr 5 0)),(9,(.ful 9)),(13,(.ful 13)),(14,(.ful 14)),(39,(.int .i64 nA)),(40,(.int .i64 oA)),(46,(.lst .node tA)),(47,(.int .i64 uA)),(48,(.int .i64 rA))],[(9,(.rows .ints m9)),(13,(.rows .int kA)),(14,(.rows .int fA)),(5,(.box 0 [(.lst .node gA),(.lst .link iA)])),(1000000000,(.box 1000000000 [(.lst .rule dA)])),(1000000001,(.box 1000000001 [(.str bA)])),(1000000002,(.box 1000000002 [(.lst .node aA),(.lst .link eA)])),(1000000003,(.box 1000000003 [(.bool cA)])),(1000000004,(.box 1000000004 [(.lst .int jA)]))]⟩
noncomputable def fr9 (m9:List (List Int)) (kA:List Int) (sA:Int) (nA:Int) (oA:Int) (gA:List Node) (iA:List Lnk) (dA:List Rule) (bA:List UInt8) (aA:List Node) (eA:List Lnk) (cA:Bool) (jA:List Int):St U El:=⟨[(3,(.fn 72 [] [(.ptr 1000000000 0),(.ptr 1000000001 0),(.ptr 1000000002 0),(.ptr 1000000003 0),(.ptr 1000000004 0)])),(5,(.ptr 5 0)),(9,(.ful 9)),(13,(.ful 13)),(17,(.int .i64 sA)),(39,(.int .i64 nA)),(40,(.int .i64 oA))],[(9,(.rows .ints m9)),(13,(.rows .int kA)),(5,(.box 0 [(.lst .node gA),(.lst .link iA)])),(1000000000,(.box 1000000000 [(.lst .rule dA)])),(1000000001,(.box 1000000001 [(.str bA)])),(1000000002,(.box 1000000002 [(.lst .node aA),(.lst .link eA)])),(1000000003,(.box 1000000003 [(.bool cA)])),(1000000004,(.box 1000000004 [(.lst .int jA)]))]⟩
noncomputable def sh0 (l:List Rule) (n:Net) (s:List UInt8) (l2:List Rule) (s2:List UInt8) (lA:List Node) (pA:List Lnk) (cm:Bool) (k2:Y2):R :=
  chk ((okN n&&a6 l)) (k2 (bt l n s) (1:Int) (Int.ofNat (List.length (bt l n s))) (0:Int) n.nds n.lks l2 s2 lA pA cm)
noncomputable def sh1 (m9:List (List Int)) (mA:Int) (gA:List Node) (iA:List Lnk) (dA:List Rule) (bA:List UInt8) (aA:List Node) (eA:List Lnk) (cA:Bool) (k4:Y4):R :=
  chk (ile 0 (Int.ofNat (List.length m9))&&ile (Int.ofNat (List.length m9)) (Int.ofNat (List.length m9))&&ile ((Int.ofNat (List.length m9)) * 8) 140737488355328) (k4 m9 (List.replicate (Int.toNat (Int.ofNat (List.length m9))) aL) mA (0:Int) gA iA dA bA aA eA cA ([]:List Int))
noncomputable def sh2 (m9:List (List Int)) (mA:Int) (bB:Int) (vA:Int) (gA:List Node) (iA:List Lnk) (dA:List Rule) (bA:List UInt8) (aA:List Node) (eA:List Lnk) (cA:Bool) (k1:Y1) (k2:Y2):R :=
  aa (ilt vA bB) (chk (inb vA (List.length m9)) (chk (nlt (Int.toNat vA) (List.length m9)) (aa (ilt (10000:Int) (IntKind.wrap .i64 (mA * (bif ilt (1:Int) (Int.ofNat (List.length (List.getD m9 (Int.toNat vA) cL))) then (Int.ofNat (List.length (List.getD m9 (Int.toNat vA) cL))) else (1:Int))))) (some ((.bool false),[(1000000000,(.box 1000000000 [(.lst .rule dA)])),(1000000001,(.box 1000000001 [(.str bA)])),(1000000002,(.box 1000000002 [(.lst .node aA),(.lst .link eA)])),(1000000003,(.box 1000000003 [(.bool cA)])),(1000000004,(.box 1000000004 [(.lst .int ([]:List Int))]))])) (k2 m9 (IntKind.wrap .i64 (mA * (bif ilt (1:Int) (Int.ofNat (List.length (List.getD m9 (Int.toNat vA) cL))) then (Int.ofNat (List.length (List.getD m9 (Int.toNat vA) cL))) else (1:Int)))) bB (IntKind.wrap .i64 (vA+(1:Int))) gA iA dA bA aA eA cA)))) (k1 m9 mA gA iA dA bA aA eA cA)
noncomputable def sh3 (dA:List Rule) (bA:List UInt8) (aA:List Node) (eA:List Lnk) (cA:Bool) (jA:List Int):R :=
  some ((.bool true),[(1000000000,(.box 1000000000 [(.lst .rule dA)])),(1000000001,(.box 1000000001 [(.str bA)])),(1000000002,(.box 1000000002 [(.lst .node aA),(.lst .link eA)])),(1000000003,(.box 1000000003 [(.bool cA)])),(1000000004,(.box 1000000004 [(.lst .int jA)]))])
noncomputable def sh4 (m9:List (List Int)) (kA:List Int) (nA:Int) (oA:Int) (gA:List Node) (iA:List Lnk) (dA:List Rule) (bA:List UInt8) (aA:List Node) (eA:List Lnk) (cA:Bool) (jA:List Int) (k3:Y3) (k7:Y7):R :=
  aa (ilt oA nA) (chk (ile 0 (Int.ofNat (List.length m9))&&ile (Int.ofNat (List.length m9)) (Int.ofNat (List.length m9))&&ile ((Int.ofNat (List.length m9)) * 8) 140737488355328) (k7 m9 kA (List.replicate (Int.toNat (Int.ofNat (List.length m9))) aL) nA oA gA (Int.ofNat (List.length gA)) (0:Int) gA iA dA bA aA eA cA jA)) (k3 dA bA aA eA cA jA)
noncomputable def sh5 (m9:List (List Int)) (kA:List Int) (nA:Int) (oA:Int) (gA:List Node) (iA:List Lnk) (dA:List Rule) (bA:List UInt8) (aA:List Node) (eA:List Lnk) (cA:Bool) (jA:List Int) (k4:Y4):R :=
  k4 m9 kA nA (IntKind.wrap .i64 (oA+(1:Int))) gA iA dA bA aA eA cA jA
noncomputable def sh6 (m9:List (List Int)) (kA:List Int) (fA:List Int) (nA:Int) (oA:Int) (gA:List Node) (iA:List Lnk) (dA:List Rule) (bA:List UInt8) (aA:List Node) (eA:List Lnk) (cA:Bool) (jA:List Int) (k9:Y9):R :=
  chk ((nle (List.length dA) 90000&&List.all dA (bl aA fA))) (aa (!(dz dA bA aA fA)) (some ((.bool true),[(1000000000,(.box 1000000000 [(.lst .rule dA)])),(1000000001,(.box 1000000001 [(.str bA)])),(1000000002,(.box 1000000002 [(.lst .node aA),(.lst .link eA)])),(1000000003,(.box 1000000003 [(.bool (dz dA bA aA fA))])),(1000000004,(.box 1000000004 [(.lst .int ((bif dz dA bA aA fA then jA else fA)))]))])) (k9 m9 kA (IntKind.wrap .i64 ((Int.ofNat (List.length kA)) - (1:Int))) nA oA gA iA dA bA aA eA (dz dA bA aA fA) ((bif dz dA bA aA fA then jA else fA))))
noncomputable def sh7 (m9:List (List Int)) (kA:List Int) (fA:List Int) (nA:Int) (oA:Int) (tA:List Node) (uA:Int) (rA:Int) (gA:List Node) (iA:List Lnk) (dA:List Rule) (bA:List UInt8) (aA:List Node) (eA:List Lnk) (cA:Bool) (jA:List Int) (k6:Y6) (k8:Y8):R :=
  aa (ilt rA uA) (chk (inb rA (List.length tA)) (chk (inb rA (List.length fA)) (chk (nlt (Int.toNat rA) (List.length fA)&&true) (chk (inb rA (List.length m9)) (chk (nlt (Int.toNat rA) (List.length m9)) (aa (ilt (0:Int) (Int.ofNat (List.length (List.getD m9 (Int.toNat rA) cL)))) (chk (inb rA (List.length m9)) (chk (nlt (Int.toNat rA) (List.length m9)) (chk (inb rA (List.length kA)) (chk (nlt (Int.toNat rA) (List.length kA)) (chk (inb (List.getD kA (Int.toNat rA) aL) (List.length (List.getD m9 (Int.toNat rA) cL))) (chk (inb rA (List.length (List.set fA (Int.toNat rA) ((List.getD tA (Int.toNat rA) aO).ni)))) (chk (nlt (Int.toNat rA) (List.length (List.set fA (Int.toNat rA) ((List.getD tA (Int.toNat rA) aO).ni)))&&true) (k8 m9 kA (List.set (List.set fA (Int.toNat rA) ((List.getD tA (Int.toNat rA) aO).ni)) (Int.toNat rA) (List.getD (List.getD m9 (Int.toNat rA) cL) (Int.toNat (List.getD kA (Int.toNat rA) aL)) aL)) nA oA tA uA rA gA iA dA bA aA eA cA jA)))))))) (k8 m9 kA (List.set fA (Int.toNat rA) ((List.getD tA (Int.toNat rA) aO).ni)) nA oA tA uA rA gA iA dA bA aA eA cA jA))))))) (k6 m9 kA fA nA oA gA iA dA bA aA eA cA jA)
noncomputable def sh8 (m9:List (List Int)) (kA:List Int) (fA:List Int) (nA:Int) (oA:Int) (tA:List Node) (uA:Int) (rA:Int) (gA:List Node) (iA:List Lnk) (dA:List Rule) (bA:List UInt8) (aA:List Node) (eA:List Lnk) (cA:Bool) (jA:List Int) (k7:Y7):R :=
  k7 m9 kA fA nA oA tA uA (IntKind.wrap .i64 (rA+(1:Int))) gA iA dA bA aA eA cA jA
noncomputable def sh9 (m9:List (List Int)) (kA:List Int) (sA:Int) (nA:Int) (oA:Int) (gA:List Node) (iA:List Lnk) (dA:List Rule) (bA:List UInt8) (aA:List Node) (eA:List Lnk) (cA:Bool) (jA:List Int) (k5:Y5) (k9:Y9):R :=
  aa (ile (0:Int) sA) (chk (inb sA (List.length kA)) (chk (nlt (Int.toNat sA) (List.length kA)) (chk (inb sA (List.length kA)) (chk (nlt (Int.toNat sA) (List.length kA)&&true) (chk (inb sA (List.length (List.set kA (Int.toNat sA) (IntKind.wrap .i64 ((List.getD kA (Int.toNat sA) aL)+(1:Int)))))) (chk (nlt (Int.toNat sA) (List.length (List.set kA (Int.toNat sA) (IntKind.wrap .i64 ((List.getD kA (Int.toNat sA) aL)+(1:Int)))))) (chk (inb sA (List.length m9)) (chk (nlt (Int.toNat sA) (List.length m9)) (aa (ilt (List.getD (List.set kA (Int.toNat sA) (IntKind.wrap .i64 ((List.getD kA (Int.toNat sA) aL)+(1:Int)))) (Int.toNat sA) aL) (Int.ofNat (List.length (List.getD m9 (Int.toNat sA) cL)))) (k5 m9 (List.set kA (Int.toNat sA) (IntKind.wrap .i64 ((List.getD kA (Int.toNat sA) aL)+(1:Int)))) nA oA gA iA dA bA aA eA cA jA) (chk (inb sA (List.length (List.set kA (Int.toNat sA) (IntKind.wrap .i64 ((List.getD kA (Int.toNat sA) aL)+(1:Int)))))) (chk (nlt (Int.toNat sA) (List.length (List.set kA (Int.toNat sA) (IntKind.wrap .i64 ((List.getD kA (Int.toNat sA) aL)+(1:Int)))))&&true) (k9 m9 (List.set (List.set kA (Int.toNat sA) (IntKind.wrap .i64 ((List.getD kA (Int.toNat sA) aL)+(1:Int)))) (Int.toNat sA) (0:Int)) (IntKind.wrap .i64 (sA - (1:Int))) nA oA gA iA dA bA aA eA cA jA)))))))))))) (k5 m9 kA nA oA gA iA dA bA aA eA cA jA)
noncomputable def it2 (Kb1:ab U El) (n:Nat):ab U El:=bw nm2 (fun st' K'=>ac X (cdp [1,1,1,0,1,0,0] bd) .d st' K' (aq 0 (ah nm1 Kb1) (fun _ _=>none)) RR) n
noncomputable def it4 (Kb3:ab U El) (n:Nat):ab U El:=bw nm4 (fun st' K'=>ac X (cdp [1,1,1,1,1,0,1,0,0] bd) (.seq none .d (.seq none .d (.seq (some nm5) (.block (.seq none .d (.seq (some nm6) (.seq none .d (.block (.loop nm7 (.seq none .d (.seq none .d (.seq (some nm8) (.block (.seq none .d (.seq none .d (.seq none .d (.cond (.region [(13,14)]) .d))))) .d)))))) (.seq none .d (.seq none .d (.block (.loop nm9 .d))))))) .d))) st' K' (aq 2 (ah nm3 Kb3) (fun _ _=>none)) RR) n
noncomputable def it7 (Kb3 Kb5 Kb6:ab U El) (n:Nat):ab U El:=bw nm7 (fun st' K'=>ac X (cdp [1,1,1,1,1,0,1,0,0,1,1,0,0,1,0,1,0,0] bd) (.seq none .d (.seq none .d (.seq (some nm8) (.block (.seq none .d (.seq none .d (.seq none .d (.cond (.region [(13,14)]) .d))))) .d))) st' K' (aq 4 (ah nm6 Kb6) (aq 3 (ah nm5 Kb5) (aq 2 (ah nm3 Kb3) (fun _ _=>none)))) RR) n
noncomputable def it9 (Kb3 Kb5:ab U El) (n:Nat):ab U El:=bw nm9 (fun st' K'=>ac X (cdp [1,1,1,1,1,0,1,0,0,1,1,0,0,1,1,1,1,0,0] bd) .d st' K' (aq 6 (ah nm5 Kb5) (aq 3 (ah nm5 Kb5) (aq 2 (ah nm3 Kb3) (fun _ _=>none)))) RR) n
noncomputable def ct1:ab U El:=fun st=>ac X (cdp [1,1,1,1] bd) (.seq none .d (.seq (some nm3) (.seq none .d (.block (.loop nm4 (.seq none .d (.seq none .d (.seq (some nm5) (.block (.seq none .d (.seq (some nm6) (.seq none .d (.block (.loop nm7 (.seq none .d (.seq none .d (.seq (some nm8) (.block (.seq none .d (.seq none .d (.seq none .d (.cond (.region [(13,14)]) .d))))) .d)))))) (.seq none .d (.seq none .d (.block (.loop nm9 .d))))))) .d)))))) .d)) st RR (fun _ _=>none) RR
noncomputable def ct3:ab U El:=fun st=>ac X (cdp [1,1,1,1,1,1] bd) .d st RR (fun _ _=>none) RR
noncomputable def ct5 (Kb3 Kb4:ab U El):ab U El:=fun st=>ac X (cdp [1,1,1,1,1,0,1,0,0,1,1,1] bd) .d st (ah nm4 Kb4) (aq 2 (ah nm3 Kb3) (fun _ _=>none)) RR
noncomputable def ct6 (Kb3 Kb5:ab U El):ab U El:=fun st=>ac X (cdp [1,1,1,1,1,0,1,0,0,1,1,0,0,1,1] bd) (.seq none .d (.seq none .d (.block (.loop nm9 .d)))) st (ah nm5 Kb5) (aq 3 (ah nm5 Kb5) (aq 2 (ah nm3 Kb3) (fun _ _=>none))) RR
noncomputable def ct8 (Kb3 Kb5 Kb6 Kb7:ab U El):ab U El:=fun st=>ac X (cdp [1,1,1,1,1,0,1,0,0,1,1,0,0,1,0,1,0,0,1,1,1] bd) .d st (ah nm7 Kb7) (aq 4 (ah nm6 Kb6) (aq 3 (ah nm5 Kb5) (aq 2 (ah nm3 Kb3) (fun _ _=>none)))) RR
theorem P0 (l n s l2 s2 lA pA cm):ac X (cdp [] bd) (.seq none .d (.seq none .d (.seq none .d (.seq (some nm1) (.seq none .d (.block (.loop nm2 .d))) (.seq none .d (.seq (some nm3) (.seq none .d (.block (.loop nm4 (.seq none .d (.seq none .d (.seq (some nm5) (.block (.seq none .d (.seq (some nm6) (.seq none .d (.block (.loop nm7 (.seq none .d (.seq none .d (.seq (some nm8) (.block (.seq none .d (.seq none .d (.seq none .d (.cond (.region [(13,14)]) .d))))) .d)))))) (.seq none .d (.seq none .d (.block (.loop nm9 .d))))))) .d)))))) .d)))))) (fr0 l n s l2 s2 lA pA cm) RR (fun _ _=>none) RR=sh0 l n s l2 s2 lA pA cm (fun y0 y1 y2 y3 y4 y5 y6 y7 y8 y9 y10=>(hid (it2 (hid ct1) 100000)) (fr2 y0 y1 y2 y3 y4 y5 y6 y7 y8 y9 y10)):=by kernel_rfl
theorem P1 (m9 mA gA iA dA bA aA eA cA):ct1 (fr1 m9 mA gA iA dA bA aA eA cA)=sh1 m9 mA gA iA dA bA aA eA cA (fun y0 y1 y2 y3 y4 y5 y6 y7 y8 y9 y10 y11=>(hid (it4 (hid ct3) 100000)) (fr4 y0 y1 y2 y3 y4 y5 y6 y7 y8 y9 y10 y11)):=by kernel_rfl
theorem P2 (m9 mA bB vA gA iA dA bA aA eA cA) (Kb1 Kb2:ab U El):ac X (cdp [1,1,1,0,1,0,0] bd) .d (fr2 m9 mA bB vA gA iA dA bA aA eA cA) (ah nm2 Kb2) (aq 0 (ah nm1 Kb1) (fun _ _=>none)) RR=sh2 m9 mA bB vA gA iA dA bA aA eA cA (fun y0 y1 y2 y3 y4 y5 y6 y7 y8=>Kb1 (fr1 y0 y1 y2 y3 y4 y5 y6 y7 y8)) (fun y0 y1 y2 y3 y4 y5 y6 y7 y8 y9 y10=>Kb2 (fr2 y0 y1 y2 y3 y4 y5 y6 y7 y8 y9 y10)):=by kernel_rfl
theorem P3 (dA bA aA eA cA jA):ct3 (fr3 dA bA aA eA cA jA)=sh3 dA bA aA eA cA jA:=by kernel_rfl
theorem P4 (m9 kA nA oA gA iA dA bA aA eA cA jA) (Kb3 Kb4:ab U El):ac X (cdp [1,1,1,1,1,0,1,0,0] bd) (.seq none .d (.seq none .d (.seq (some nm5) (.block (.seq none .d (.seq (some nm6) (.seq none .d (.block (.loop nm7 (.seq none .d (.seq none .d (.seq (some nm8) (.block (.seq none .d (.seq none .d (.seq none .d (.cond (.region [(13,14)]) .d))))) .d)))))) (.seq none .d (.seq none .d (.block (.loop nm9 .d))))))) .d))) (fr4 m9 kA nA oA gA iA dA bA aA eA cA jA) (ah nm4 Kb4) (aq 2 (ah nm3 Kb3) (fun _ _=>none)) RR=sh4 m9 kA nA oA gA iA dA bA aA eA cA jA (fun y0 y1 y2 y3 y4 y5=>Kb3 (fr3 y0 y1 y2 y3 y4 y5)) (fun y0 y1 y2 y3 y4 y5 y6 y7 y8 y9 y10 y11 y12 y13 y14 y15=>(hid (it7 Kb3 (hid (ct5 Kb3 Kb4)) (hid (ct6 Kb3 (hid (ct5 Kb3 Kb4)))) 100000)) (fr7 y0 y1 y2 y3 y4 y5 y6 y7 y8 y9 y10 y11 y12 y13 y14 y15)):=by kernel_rfl
theorem P5 (m9 kA nA oA gA iA dA bA aA eA cA jA) (Kb3 Kb4:ab U El):ct5 Kb3 Kb4 (fr5 m9 kA nA oA gA iA dA bA aA eA cA jA)=sh5 m9 kA nA oA gA iA dA bA aA eA cA jA (fun y0 y1 y2 y3 y4 y5 y6 y7 y8 y9 y10 y11=>Kb4 (fr4 y0 y1 y2 y3 y4 y5 y6 y7 y8 y9 y10 y11)):=by kernel_rfl
theorem P6 (m9 kA fA nA oA gA iA dA bA aA eA cA jA) (Kb3 Kb5:ab U El):ct6 Kb3 Kb5 (fr6 m9 kA fA nA oA gA iA dA bA aA eA cA jA)=sh6 m9 kA fA nA oA gA iA dA bA aA eA cA jA (fun y0 y1 y2 y3 y4 y5 y6 y7 y8 y9 y10 y11 y12=>(hid (it9 Kb3 Kb5 100000)) (fr9 y0 y1 y2 y3 y4 y5 y6 y7 y8 y9 y10 y11 y12)):=by kernel_rfl
theorem P7 (m9 kA fA nA oA tA uA rA gA iA dA bA aA eA cA jA) (Kb3 Kb5 Kb6 Kb7:ab U El):ac X (cdp [1,1,1,1,1,0,1,0,0,1,1,0,0,1,0,1,0,0] bd) (.seq none .d (.seq none .d (.seq (some nm8) (.block (.seq none .d (.seq none .d (.seq none .d (.cond (.region [(13,14)]) .d))))) .d))) (fr7 m9 kA fA nA oA tA uA rA gA iA dA bA aA eA cA jA) (ah nm7 Kb7) (aq 4 (ah nm6 Kb6) (aq 3 (ah nm5 Kb5) (aq 2 (ah nm3 Kb3) (fun _ _=>none)))) RR=sh7 m9 kA fA nA oA tA uA rA gA iA dA bA aA eA cA jA (fun y0 y1 y2 y3 y4 y5 y6 y7 y8 y9 y10 y11 y12=>Kb6 (fr6 y0 y1 y2 y3 y4 y5 y6 y7 y8 y9 y10 y11 y12)) (fun y0 y1 y2 y3 y4 y5 y6 y7 y8 y9 y10 y11 y12 y13 y14 y15=>(hid (ct8 Kb3 Kb5 Kb6 Kb7)) (fr8 y0 y1 y2 y3 y4 y5 y6 y7 y8 y9 y10 y11 y12 y13 y14 y15)):=by kernel_rfl
theorem P8 (m9 kA fA nA oA tA uA rA gA iA dA bA aA eA cA jA) (Kb3 Kb5 Kb6 Kb7:ab U El):ct8 Kb3 Kb5 Kb6 Kb7 (fr8 m9 kA fA nA oA tA uA rA gA iA dA bA aA eA cA jA)=sh8 m9 kA fA nA oA tA uA rA gA iA dA bA aA eA cA jA (fun y0 y1 y2 y3 y4 y5 y6 y7 y8 y9 y10 y11 y12 y13 y14 y15=>Kb7 (fr7 y0 y1 y2 y3 y4 y5 y6 y7 y8 y9 y10 y11 y12 y13 y14 y15)):=by kernel_rfl
theorem P9 (m9 kA sA nA oA gA iA dA bA aA eA cA jA) (Kb3 Kb5 Kb9:ab U El):ac X (cdp [1,1,1,1,1,0,1,0,0,1,1,0,0,1,1,1,1,0,0] bd) .d (fr9 m9 kA sA nA oA gA iA dA bA aA eA cA jA) (ah nm9 Kb9) (aq 6 (ah nm5 Kb5) (aq 3 (ah nm5 Kb5) (aq 2 (ah nm3 Kb3) (fun _ _=>none)))) RR=sh9 m9 kA sA nA oA gA iA dA bA aA eA cA jA (fun y0 y1 y2 y3 y4 y5 y6 y7 y8 y9 y10 y11=>Kb5 (fr5 y0 y1 y2 y3 y4 y5 y6 y7 y8 y9 y10 y11)) (fun y0 y1 y2 y3 y4 y5 y6 y7 y8 y9 y10 y11 y12=>Kb9 (fr9 y0 y1 y2 y3 y4 y5 y6 y7 y8 y9 y10 y11 y12)):=by kernel_rfl
noncomputable def f3 (dA:List Rule) (bA:List UInt8) (aA:List Node) (eA:List Lnk) (cA:Bool) (jA:List Int):R:=sh3 dA bA aA eA cA jA
noncomputable def f5 (k4:Y4) (m9:List (List Int)) (kA:List Int) (nA:Int) (oA:Int) (gA:List Node) (iA:List Lnk) (dA:List Rule) (bA:List UInt8) (aA:List Node) (eA:List Lnk) (cA:Bool) (jA:List Int):R:=sh5 m9 kA nA oA gA iA dA bA aA eA cA jA k4
noncomputable def f9 (k4:Y4):Nat→Y9
  | 0=>fun _ _ _ _ _ _ _ _ _ _ _ _ _=>none
  | n+1=>fun m9 kA sA nA oA gA iA dA bA aA eA cA jA=>sh9 m9 kA sA nA oA gA iA dA bA aA eA cA jA (f5 k4) (f9 k4 n)
noncomputable def f6 (k4:Y4) (m9:List (List Int)) (kA:List Int) (fA:List Int) (nA:Int) (oA:Int) (gA:List Node) (iA:List Lnk) (dA:List Rule) (bA:List UInt8) (aA:List Node) (eA:List Lnk) (cA:Bool) (jA:List Int):R:=sh6 m9 kA fA nA oA gA iA dA bA aA eA cA jA (f9 k4 100000)
noncomputable def f8 (k4:Y4) (k7:Y7) (m9:List (List Int)) (kA:List Int) (fA:List Int) (nA:Int) (oA:Int) (tA:List Node) (uA:Int) (rA:Int) (gA:List Node) (iA:List Lnk) (dA:List Rule) (bA:List UInt8) (aA:List Node) (eA:List Lnk) (cA:Bool) (jA:List Int):R:=sh8 m9 kA fA nA oA tA uA rA gA iA dA bA aA eA cA jA k7
noncomputable def f7 (k4:Y4):Nat→Y7
  | 0=>fun _ _ _ _ _ _ _ _ _ _ _ _ _ _ _ _=>none
  | n+1=>fun m9 kA fA nA oA tA uA rA gA iA dA bA aA eA cA jA=>sh7 m9 kA fA nA oA tA uA rA gA iA dA bA aA eA cA jA (f6 k4) (f8 k4 (f7 k4 n))
noncomputable def f4:Nat→Y4
  | 0=>fun _ _ _ _ _ _ _ _ _ _ _ _=>none
  | n+1=>fun m9 kA nA oA gA iA dA bA aA eA cA jA=>sh4 m9 kA nA oA gA iA dA bA aA eA cA jA f3 (f7 (f4 n) 100000)
noncomputable def f1 (m9:List (List Int)) (mA:Int) (gA:List Node) (iA:List Lnk) (dA:List Rule) (bA:List UInt8) (aA:List Node) (eA:List Lnk) (cA:Bool):R:=sh1 m9 mA gA iA dA bA aA eA cA (f4 100000)
noncomputable def f2:Nat→Y2
  | 0=>fun _ _ _ _ _ _ _ _ _ _ _=>none
  | n+1=>fun m9 mA bB vA gA iA dA bA aA eA cA=>sh2 m9 mA bB vA gA iA dA bA aA eA cA f1 (f2 n)
noncomputable def f0 (l:List Rule) (n:Net) (s:List UInt8) (l2:List Rule) (s2:List UInt8) (lA:List Node) (pA:List Lnk) (cm:Bool):R:=sh0 l n s l2 s2 lA pA cm (f2 100000)
theorem T3 (dA bA aA eA cA jA):(hid ct3) (fr3 dA bA aA eA cA jA)=f3 dA bA aA eA cA jA:=by
  refine (congrFun (ai _) _).trans <| (P3 dA bA aA eA cA jA).trans ?_
  show _=sh3 dA bA aA eA cA jA
  rfl
theorem T5 (KL4:ab U El) (k4:Y4) (h4:∀ m9 kA nA oA gA iA dA bA aA eA cA jA,KL4 (fr4 m9 kA nA oA gA iA dA bA aA eA cA jA)=k4 m9 kA nA oA gA iA dA bA aA eA cA jA) (m9 kA nA oA gA iA dA bA aA eA cA jA):(hid (ct5 (hid ct3) KL4)) (fr5 m9 kA nA oA gA iA dA bA aA eA cA jA)=f5 k4 m9 kA nA oA gA iA dA bA aA eA cA jA:=by
  refine (congrFun (ai _) _).trans <| (P5 m9 kA nA oA gA iA dA bA aA eA cA jA (hid ct3) KL4).trans ?_
  show _=sh5 m9 kA nA oA gA iA dA bA aA eA cA jA k4
  simp only [h4]
theorem T9 (KL4:ab U El) (k4:Y4) (h4:∀ m9 kA nA oA gA iA dA bA aA eA cA jA,KL4 (fr4 m9 kA nA oA gA iA dA bA aA eA cA jA)=k4 m9 kA nA oA gA iA dA bA aA eA cA jA):∀ (n:Nat),∀ m9 kA sA nA oA gA iA dA bA aA eA cA jA,it9 (hid ct3) (hid (ct5 (hid ct3) KL4)) n (fr9 m9 kA sA nA oA gA iA dA bA aA eA cA jA)=f9 k4 n m9 kA sA nA oA gA iA dA bA aA eA cA jA:=by
  intro n
  induction n with
  | zero=>intros; rfl
  | succ n ih =>
    intro m9 kA sA nA oA gA iA dA bA aA eA cA jA
    refine (P9 m9 kA sA nA oA gA iA dA bA aA eA cA jA (hid ct3) (hid (ct5 (hid ct3) KL4)) (it9 (hid ct3) (hid (ct5 (hid ct3) KL4)) n)).trans ?_
    show _=sh9 m9 kA sA nA oA gA iA dA bA aA eA cA jA (f5 k4) (f9 k4 n)
    simp only [T5 KL4 k4 h4,ih]
theorem H9 (KL4:ab U El) (k4:Y4) (h4:∀ m9 kA nA oA gA iA dA bA aA eA cA jA,KL4 (fr4 m9 kA nA oA gA iA dA bA aA eA cA jA)=k4 m9 kA nA oA gA iA dA bA aA eA cA jA) (m9 kA sA nA oA gA iA dA bA aA eA cA jA):hid (it9 (hid ct3) (hid (ct5 (hid ct3) KL4)) 100000) (fr9 m9 kA sA nA oA gA iA dA bA aA eA cA jA)=f9 k4 100000 m9 kA sA nA oA gA iA dA bA aA eA cA jA:=(congrFun (ai _) _).trans (T9 KL4 k4 h4 100000 m9 kA sA nA oA gA iA dA bA aA eA cA jA)
theorem T6 (KL4:ab U El) (k4:Y4) (h4:∀ m9 kA nA oA gA iA dA bA aA eA cA jA,KL4 (fr4 m9 kA nA oA gA iA dA bA aA eA cA jA)=k4 m9 kA nA oA gA iA dA bA aA eA cA jA) (m9 kA fA nA oA gA iA dA bA aA eA cA jA):(hid (ct6 (hid ct3) (hid (ct5 (hid ct3) KL4)))) (fr6 m9 kA fA nA oA gA iA dA bA aA eA cA jA)=f6 k4 m9 kA fA nA oA gA iA dA bA aA eA cA jA:=by
  refine (congrFun (ai _) _).trans <| (P6 m9 kA fA nA oA gA iA dA bA aA eA cA jA (hid ct3) (hid (ct5 (hid ct3) KL4))).trans ?_
  show _=sh6 m9 kA fA nA oA gA iA dA bA aA eA cA jA (f9 k4 100000)
  simp only [H9 KL4 k4 h4]
theorem T8 (KL4:ab U El) (KL7:ab U El) (k4:Y4) (k7:Y7) (h4:∀ m9 kA nA oA gA iA dA bA aA eA cA jA,KL4 (fr4 m9 kA nA oA gA iA dA bA aA eA cA jA)=k4 m9 kA nA oA gA iA dA bA aA eA cA jA) (h7:∀ m9 kA fA nA oA tA uA rA gA iA dA bA aA eA cA jA,KL7 (fr7 m9 kA fA nA oA tA uA rA gA iA dA bA aA eA cA jA)=k7 m9 kA fA nA oA tA uA rA gA iA dA bA aA eA cA jA) (m9 kA fA nA oA tA uA rA gA iA dA bA aA eA cA jA):(hid (ct8 (hid ct3) (hid (ct5 (hid ct3) KL4)) (hid (ct6 (hid ct3) (hid (ct5 (hid ct3) KL4)))) KL7)) (fr8 m9 kA fA nA oA tA uA rA gA iA dA bA aA eA cA jA)=f8 k4 k7 m9 kA fA nA oA tA uA rA gA iA dA bA aA eA cA jA:=by
  refine (congrFun (ai _) _).trans <| (P8 m9 kA fA nA oA tA uA rA gA iA dA bA aA eA cA jA (hid ct3) (hid (ct5 (hid ct3) KL4)) (hid (ct6 (hid ct3) (hid (ct5 (hid ct3) KL4)))) KL7).trans ?_
  show _=sh8 m9 kA fA nA oA tA uA rA gA iA dA bA aA eA cA jA k7
  simp only [h7]
theorem T7 (KL4:ab U El) (k4:Y4) (h4:∀ m9 kA nA oA gA iA dA bA aA eA cA jA,KL4 (fr4 m9 kA nA oA gA iA dA bA aA eA cA jA)=k4 m9 kA nA oA gA iA dA bA aA eA cA jA):∀ (n:Nat),∀ m9 kA fA nA oA tA uA rA gA iA dA bA aA eA cA jA,it7 (hid ct3) (hid (ct5 (hid ct3) KL4)) (hid (ct6 (hid ct3) (hid (ct5 (hid ct3) KL4)))) n (fr7 m9 kA fA nA oA tA uA rA gA iA dA bA aA eA cA jA)=f7 k4 n m9 kA fA nA oA tA uA rA gA iA dA bA aA eA cA jA:=by
  intro n
  induction n with
  | zero=>intros; rfl
  | succ n ih =>
    intro m9 kA fA nA oA tA uA rA gA iA dA bA aA eA cA jA
    refine (P7 m9 kA fA nA oA tA uA rA gA iA dA bA aA eA cA jA (hid ct3) (hid (ct5 (hid ct3) KL4)) (hid (ct6 (hid ct3) (hid (ct5 (hid ct3) KL4)))) (it7 (hid ct3) (hid (ct5 (hid ct3) KL4)) (hid (ct6 (hid ct3) (hid (ct5 (hid ct3) KL4)))) n)).trans ?_
    show _=sh7 m9 kA fA nA oA tA uA rA gA iA dA bA aA eA cA jA (f6 k4) (f8 k4 (f7 k4 n))
    simp only [T6 KL4 k4 h4,T8 KL4 (it7 (hid ct3) (hid (ct5 (hid ct3) KL4)) (hid (ct6 (hid ct3) (hid (ct5 (hid ct3) KL4)))) n) k4 (f7 k4 n) h4 ih]
theorem H7 (KL4:ab U El) (k4:Y4) (h4:∀ m9 kA nA oA gA iA dA bA aA eA cA jA,KL4 (fr4 m9 kA nA oA gA iA dA bA aA eA cA jA)=k4 m9 kA nA oA gA iA dA bA aA eA cA jA) (m9 kA fA nA oA tA uA rA gA iA dA bA aA eA cA jA):hid (it7 (hid ct3) (hid (ct5 (hid ct3) KL4)) (hid (ct6 (hid ct3) (hid (ct5 (hid ct3) KL4)))) 100000) (fr7 m9 kA fA nA oA tA uA rA gA iA dA bA aA eA cA jA)=f7 k4 100000 m9 kA fA nA oA tA uA rA gA iA dA bA aA eA cA jA:=(congrFun (ai _) _).trans (T7 KL4 k4 h4 100000 m9 kA fA nA oA tA uA rA gA iA dA bA aA eA cA jA)
theorem T4:∀ (n:Nat),∀ m9 kA nA oA gA iA dA bA aA eA cA jA,it4 (hid ct3) n (fr4 m9 kA nA oA gA iA dA bA aA eA cA jA)=f4 n m9 kA nA oA gA iA dA bA aA eA cA jA:=by
  intro n
  induction n with
  | zero=>intros; rfl
  | succ n ih =>
    intro m9 kA nA oA gA iA dA bA aA eA cA jA
    refine (P4 m9 kA nA oA gA iA dA bA aA eA cA jA (hid ct3) (it4 (hid ct3) n)).trans ?_
    show _=sh4 m9 kA nA oA gA iA dA bA aA eA cA jA f3 (f7 (f4 n) 100000)
    simp only [T3,H7 (it4 (hid ct3) n) (f4 n) ih]
theorem H4 (m9 kA nA oA gA iA dA bA aA eA cA jA):hid (it4 (hid ct3) 100000) (fr4 m9 kA nA oA gA iA dA bA aA eA cA jA)=f4 100000 m9 kA nA oA gA iA dA bA aA eA cA jA:=(congrFun (ai _) _).trans (T4 100000 m9 kA nA oA gA iA dA bA aA eA cA jA)
theorem T1 (m9 mA gA iA dA bA aA eA cA):(hid ct1) (fr1 m9 mA gA iA dA bA aA eA cA)=f1 m9 mA gA iA dA bA aA eA cA:=by
  refine (congrFun (ai _) _).trans <| (P1 m9 mA gA iA dA bA aA eA cA).trans ?_
  show _=sh1 m9 mA gA iA dA bA aA eA cA (f4 100000)
  simp only [H4]
theorem T2:∀ (n:Nat),∀ m9 mA bB vA gA iA dA bA aA eA cA,it2 (hid ct1) n (fr2 m9 mA bB vA gA iA dA bA aA eA cA)=f2 n m9 mA bB vA gA iA dA bA aA eA cA:=by
  intro n
  induction n with
  | zero=>intros; rfl
  | succ n ih =>
    intro m9 mA bB vA gA iA dA bA aA eA cA
    refine (P2 m9 mA bB vA gA iA dA bA aA eA cA (hid ct1) (it2 (hid ct1) n)).trans ?_
    show _=sh2 m9 mA bB vA gA iA dA bA aA eA cA f1 (f2 n)
    simp only [T1,ih]
theorem H2 (m9 mA bB vA gA iA dA bA aA eA cA):hid (it2 (hid ct1) 100000) (fr2 m9 mA bB vA gA iA dA bA aA eA cA)=f2 100000 m9 mA bB vA gA iA dA bA aA eA cA:=(congrFun (ai _) _).trans (T2 100000 m9 mA bB vA gA iA dA bA aA eA cA)
theorem T0 (l n s l2 s2 lA pA cm):ac X bd (.seq none .d (.seq none .d (.seq none .d (.seq (some nm1) (.seq none .d (.block (.loop nm2 .d))) (.seq none .d (.seq (some nm3) (.seq none .d (.block (.loop nm4 (.seq none .d (.seq none .d (.seq (some nm5) (.block (.seq none .d (.seq (some nm6) (.seq none .d (.block (.loop nm7 (.seq none .d (.seq none .d (.seq (some nm8) (.block (.seq none .d (.seq none .d (.seq none .d (.cond (.region [(13,14)]) .d))))) .d)))))) (.seq none .d (.seq none .d (.block (.loop nm9 .d))))))) .d)))))) .d)))))) (fr0 l n s l2 s2 lA pA cm) RR (fun _ _=>none) RR=f0 l n s l2 s2 lA pA cm:=by
  refine (P0 l n s l2 s2 lA pA cm).trans ?_
  show _=sh0 l n s l2 s2 lA pA cm (f2 100000)
  simp only [H2]
theorem run (l n s l2 s2 lA pA cm):pC X bd (.seq none .d (.seq none .d (.seq none .d (.seq (some nm1) (.seq none .d (.block (.loop nm2 .d))) (.seq none .d (.seq (some nm3) (.seq none .d (.block (.loop nm4 (.seq none .d (.seq none .d (.seq (some nm5) (.block (.seq none .d (.seq (some nm6) (.seq none .d (.block (.loop nm7 (.seq none .d (.seq none .d (.seq (some nm8) (.block (.seq none .d (.seq none .d (.seq none .d (.cond (.region [(13,14)]) .d))))) .d)))))) (.seq none .d (.seq none .d (.block (.loop nm9 .d))))))) .d)))))) .d)))))) nmR [8] [(1000000000,(.box 1000000000 [(.lst .rule l2)])),(1000000001,(.box 1000000001 [(.str s2)])),(1000000002,(.box 1000000002 [(.lst .node lA),(.lst .link pA)])),(1000000003,(.box 1000000003 [(.bool cm)])),(1000000004,(.box 1000000004 [.nils]))] [(.lst .rule l),(.agg [(.lst .node n.nds),(.lst .link n.lks)]),(.str s),(.fn 72 [] [(.ptr 1000000000 0),(.ptr 1000000001 0),(.ptr 1000000002 0),(.ptr 1000000003 0),(.ptr 1000000004 0)])]=f0 l n s l2 s2 lA pA cm:=T0 l n s l2 s2 lA pA cm
noncomputable def ret (few:Bool) (l2:List Rule) (q:List UInt8) (lA:List Node) (pA:List Lnk) (cm:Bool) (gap:List Int):R:=some (.bool few,[(1000000000,.box 1000000000 [.lst .rule l2]),(1000000001,.box 1000000001 [.str q]),(1000000002,.box 1000000002 [.lst .node lA,.lst .link pA]),(1000000003,.box 1000000003 [.bool cm]),(1000000004,.box 1000000004 [.lst .int gap])])
section
variable (l2:List Rule) (q:List UInt8) (lA:List Node) (pA:List Lnk) (nds:List Node) (lks:List Lnk) (m ms:List (List Int)) (hmk:Mk nds m ms) (hn:nds.length≤90000)
include hmk hn
abbrev K4:=List (List Int)→List Int→Int→Int→List Node→List Lnk→List Rule→List UInt8→List Node→List Lnk→Bool→List Int→R
theorem step9 (k4 : K4) (nA oA : Int) (cm : Bool) (gap : List Int) : ∀ (n i : Nat) (a : List Nat), i < n → i ≤ a.length → a.length = nds.length → (∀ (j : Nat) (h : j < a.length), a[j] ≤ 100000) →
    f9 k4 n m (a.map Int.ofNat) ((i:Int) - 1) nA oA nds lks l2 q lA pA cm gap=f5 k4 m ((ki (ms.map (·.length)) i a).map Int.ofNat) nA oA nds lks l2 q lA pA cm gap:=by
  intro n
  induction n with
  | zero=>intro i a h1; omega
  | succ n ih =>
    intro i a h1 h2 h3 h4
    show sh9 m (a.map Int.ofNat) ((i:Int) - 1) nA oA nds lks l2 q lA pA cm gap (f5 k4) (f9 k4 n)=_
    unfold sh9
    cases i with
    | zero=>rw [qT (by simp)]; rfl
    | succ i =>
      have e0:((i+1:Nat):Int) - 1=(i:Int):=by omega
      rw [e0]
      have hi:i < a.length:=h2
      have hm1:i < m.length:=by rw [hmk.h1]; omega
      have hm2:i < ms.length:=by rw [hmk.h2]; omega
      have hal:i < (a.map Int.ofNat).length:=by simpa using hi
      have hai:=h4 i hi
      have eg:(a.map Int.ofNat).getD i aL=(a[i]:Int):=by rw [ar hal]; simp
      have ew:IntKind.wrap .i64 ((a[i]:Int)+1)=((a[i]+1:Nat):Int):=bD _ (by omega)
      have es:(a.map Int.ofNat).set i ((a[i]+1:Nat):Int)=(a.set i (a[i]+1)).map Int.ofNat:=by rw [List.map_set]; rfl
      have hal2:i < ((a.set i (a[i]+1)).map Int.ofNat).length:=by simpa using hi
      have eg2:((a.set i (a[i]+1)).map Int.ofNat).getD i aL=((a[i]+1:Nat):Int):=by rw [ar hal2]; simp
      have es2:((a.set i (a[i]+1)).map Int.ofNat).set i (0:Int)=(a.set i 0).map Int.ofNat:=by rw [show (0:Int)=Int.ofNat 0 from rfl,← List.map_set,List.set_set]
      rw [b7 (by omega),ak,eg,ew,es,eg2,es2,aW hal,aW hal2,aW hm1,df hal,df hal2,df hm1,ar hm1]
      have ed:((i:Int) - 1)=IntKind.wrap .i64 ((i:Int) - 1):=(eF (by omega) (by omega)).symm
      rw [← ed]
      have hrec:=ih i (a.set i 0) (by omega) (by simp; omega) (by simpa using h3) (fun j h=>by
        simp only [List.length_set] at h
        rw [List.getElem_set]
        split
        · omega
        · exact h4 j h)
      rw [hrec]
      simp only [ki]
      have e1:a.getD i 0=a[i]:=ar hi 0
      have e2:(ms.map (·.length)).getD i 0=ms[i].length:=by rw [ar (by simpa using hm2)]; simp
      rw [e1,e2]
      have et:ilt ((a[i]+1:Nat):Int) (Int.ofNat m[i].length)=nlt (a[i]+1) ms[i].length:=by
        rcases hmk.h3 i hm1 hm2 (by omega) with ⟨p1,p2⟩ | ⟨p1,p2⟩
        · rw [p1,p2,aR (by simp; omega),oi (by simp)]
        · rw [← p2]
          by_cases e:a[i]+1 < m[i].length
          · rw [aX (by simp; omega),df e]
          · rw [aR (by simp; omega),oi e]
      rw [et]
      cases nlt (a[i]+1) ms[i].length<;>rfl
theorem step7 (k4 : K4) (nA oA : Int) (cm : Bool) (gap : List Int) (k : Nat) : ∀ (n i : Nat) (lv : List Int), nds.length < n + i → i ≤ nds.length → lv.length = nds.length → lv.take i = (a7 ms k).take i →
    f7 k4 n m (cC ms k) lv nA oA nds (Int.ofNat nds.length) (i:Int) nds lks l2 q lA pA cm gap=f6 k4 m (cC ms k) (a7 ms k) nA oA nds lks l2 q lA pA cm gap:=by
  intro n
  have hT:(a7 ms k).length=nds.length:=by rw [dP,hmk.h2]
  induction n with
  | zero=>intro i lv h1 h2; omega
  | succ n ih =>
    intro i lv h1 h2 h3 h4
    show sh7 m (cC ms k) lv nA oA nds (Int.ofNat nds.length) (i:Int) nds lks l2 q lA pA cm gap (f6 k4) (f8 k4 (f7 k4 n))=_
    unfold sh7
    by_cases hi:i < nds.length
    · have hm1 : i < m.length := by rw [hmk.h1]; omega
      have hm2:i < ms.length:=by rw [hmk.h2]; omega
      have hd:i < (dw ms k).length:=by rw [c9]; exact hm2
      have hd':i < (cC ms k).length:=by simpa [cC] using hd
      have hlv:i < lv.length:=by omega
      have hT':i < (a7 ms k).length:=by omega
      have hdl:=jo (fun j h=>(hmk.len j (by rw [hmk.h1,← hmk.h2]; exact h) h).1) k i hd hm2
      have eT:(a7 ms k)[i]=ms[i].getD (dw ms k)[i] 0:=by
        have:(a7 ms k)[i]? = some (ms[i].getD (dw ms k)[i] 0):=by
          rw [kh,List.getElem?_zipWith]
          rw [List.getElem?_eq_getElem hm2,show (eV (ms.map (·.length)).reverse k).reverse=dw ms k from rfl,List.getElem?_eq_getElem hd]
        rw [List.getElem?_eq_getElem hT'] at this
        exact Option.some.inj this
      have edg:(cC ms k).getD i aL=((dw ms k)[i]:Int):=by rw [ar hd']; simp [cC]
      have hk:∀ lv':List Int,lv'.length=nds.length→lv'.take (i+1)=(a7 ms k).take (i+1)→f8 k4 (f7 k4 n) m (cC ms k) lv' nA oA nds (Int.ofNat nds.length) (i:Int) nds lks l2 q lA pA cm gap=f6 k4 m (cC ms k) (a7 ms k) nA oA nds lks l2 q lA pA cm gap:=fun lv' g1 g2=>by
        show f7 k4 n m (cC ms k) lv' nA oA nds (Int.ofNat nds.length) (IntKind.wrap .i64 ((i:Int)+1)) nds lks l2 q lA pA cm gap=_
        rw [bD i (by omega)]
        exact ih (i+1) lv' (by omega) hi g1 g2
      have bZ:∀ (lv':List Int) (v:Int),lv'.length=nds.length→lv'.take i=(a7 ms k).take i→v=(a7 ms k)[i]→(lv'.set i v).take (i+1)=(a7 ms k).take (i+1):=fun lv' v g1 g2 g3=>by
        rw [List.take_add_one,List.take_set_of_le (Nat.le_refl i),g2,List.getElem?_set_self (by omega),dN hT',g3]
        rfl
      rw [aX (by simp; omega),aW hi,aW hlv,aW hm1,aW hd',ak,df hlv,df hm1,df hd',ar hm1,ar hi,edg,ak]
      rcases hmk.h3 i hm1 hm2 hi with ⟨p1,p2⟩ | ⟨p1,p2⟩
      · rw [p1, aR (by simp)]
        simp only [bG,cO,bL]
        refine hk _ (by simpa using h3) (bZ lv _ h3 h4 ?_)
        rw [eT,p2]
        rw [p2] at hdl
        have:(dw ms k)[i]=0:=by simpa using hdl
        rw [this]; rfl
      · have hpos : 0 < m[i].length := List.length_pos_iff.2 p1
        have hsl:i < (lv.set i nds[i].ni).length:=by simpa using hlv
        rw [aX (by simp; omega),aW (show (dw ms k)[i] < m[i].length by rw [p2]; exact hdl),aW hsl,df hsl]
        simp only [bG,cO,bL,Bool.and_true]
        refine hk _ (by simpa using h3) (bZ _ _ (by simpa using h3) (by rw [List.take_set_of_le (Nat.le_refl i)]; exact h4) ?_)
        rw [eT,p2]
        rfl
    · have : i = nds.length := by omega
      subst this
      rw [aR (by simp)]
      rw [List.take_of_length_le (by omega),List.take_of_length_le (by omega)] at h4
      rw [h4]; rfl
end
noncomputable def good (l2:List Rule) (q:List UInt8) (lA:List Node) (ms:List (List Int)) (k:Nat):Bool:=dz l2 q lA (a7 ms k)
noncomputable def resO (l2:List Rule) (q:List UInt8) (lA:List Node) (pA:List Lnk) (ms:List (List Int)):Option Nat→R
  | none=>ret true l2 q lA pA true []
  | some k=>ret true l2 q lA pA false (a7 ms k)
theorem loop4 (l2 : List Rule) (q : List UInt8) (lA : List Node) (pA : List Lnk) (nds : List Node) (lks : List Lnk) (m ms : List (List Int)) (hmk : Mk nds m ms) (hn : nds.length ≤ 90000) (count : Nat) (hc : count ≤ 10000) (hlev : ∀ v : List Int, v.length = nds.length → (nle (List.length l2) 90000 && List.all l2 (bl lA v)) = true) : ∀ (n k : Nat), count < n + k → k ≤ count →
    f4 n m (cC ms k) (count:Int) (k:Int) nds lks l2 q lA pA true []=resO l2 q lA pA ms (dJ (fun k => !(good l2 q lA ms k)) (count - k) k):=by
  intro n
  induction n with
  | zero=>intro k h1 h2; omega
  | succ n ih =>
    intro k h1 h2
    show sh4 m (cC ms k) (count:Int) (k:Int) nds lks l2 q lA pA true [] f3 (f7 (f4 n) 100000)=_
    unfold sh4
    by_cases hk:k < count
    · have hml : m.length = nds.length := hmk.h1
      have e7:=step7 l2 q lA pA nds lks m ms hmk hn (f4 n) (count:Int) (k:Int) true [] k 100000 0 (List.replicate (Int.toNat (Int.ofNat m.length)) aL) (by omega) (by omega) (by rw [cR]; simp; omega) rfl
      rw [aX (by omega),b7 (show (0:Int)≤Int.ofNat m.length by simp),b7 (Int.le_refl (Int.ofNat m.length)),b7 (show Int.ofNat m.length * 8≤140737488355328 by simp; omega)]
      rw [show ((0:Int))=((0:Nat):Int) from rfl,e7]
      show sh6 m (cC ms k) (a7 ms k) (count:Int) (k:Int) nds lks l2 q lA pA true [] (f9 (f4 n) 100000)=_
      unfold sh6
      have hT:(a7 ms k).length=nds.length:=by rw [dP,hmk.h2]
      rw [hlev _ hT]
      obtain ⟨d,hd⟩:∃ d,count - k=d+1:=⟨count - k - 1,by omega⟩
      rw [hd]
      unfold dJ
      have hdl:(cC ms k).length=nds.length:=by simp [cC,c9,hmk.h2]
      have ew:IntKind.wrap .i64 (Int.ofNat (cC ms k).length - 1)=((nds.length:Nat):Int) - 1:=by rw [hdl]; exact eF (by simp; omega) (by simp; omega)
      rw [ew]
      have e9:∀ cm:Bool,cm=true→f9 (f4 n) 100000 m (cC ms k) (((nds.length:Nat):Int) - 1) (count:Int) (k:Int) nds lks l2 q lA pA cm []=resO l2 q lA pA ms (dJ (fun k => !(good l2 q lA ms k)) d (k+1)):=fun cm hcm=>by
        subst hcm
        have hL:∀ x∈ms.map (·.length),0 < x:=fun x hx=>by
          obtain ⟨y,hy,rfl⟩:=List.mem_map.1 hx
          obtain ⟨j,hj,rfl⟩:=List.getElem_of_mem hy
          exact (hmk.len j (by rw [hmk.h1,← hmk.h2]; exact hj) hj).1
        have:=step9 l2 q lA pA nds lks m ms hmk hn (f4 n) (count:Int) (k:Int) true [] 100000 nds.length (dw ms k) (by omega) (by rw [c9,hmk.h2]; exact Nat.le_refl _) (by rw [c9,hmk.h2]) (fun j h=>by
          have hj:j < ms.length:=by rw [c9] at h; exact h
          have a:=jo (fun j h=>(hmk.len j (by rw [hmk.h1,← hmk.h2]; exact h) h).1) k j h hj
          have b:=(hmk.len j (by rw [hmk.h1,← hmk.h2]; exact hj) hj).2.1
          omega)
        refine (show f9 (f4 n) 100000 m (cC ms k) (((nds.length:Nat):Int) - 1) (count:Int) (k:Int) nds lks l2 q lA pA true []=_ from this).trans ?_
        have ei:ki (ms.map (·.length)) nds.length (dw ms k)=dw ms (k+1):=by
          have:=m8 (ms.map (·.length)) hL k
          rw [List.length_map,hmk.h2] at this
          exact this
        rw [ei]
        show f4 n m (cC ms (k+1)) (count:Int) (IntKind.wrap .i64 ((k:Int)+1)) nds lks l2 q lA pA true []=_
        rw [bD k (by omega),ih (k+1) (by omega) hk]
        congr 2
        omega
      cases hs:dz l2 q lA (a7 ms k) with
      | false =>
        have:good l2 q lA ms k=false:=hs
        rw [this]; rfl
      | true =>
        have:good l2 q lA ms k=true:=hs
        rw [this]
        exact e9 true rfl
    · have : k = count := by omega
      subst this
      rw [aR (by omega),Nat.sub_self]
      rfl
theorem loop2 (l2 : List Rule) (q : List UInt8) (lA : List Node) (pA : List Lnk) (nds : List Node) (lks : List Lnk) (m ms : List (List Int)) (hmk : Mk nds m ms) (hn : nds.length ≤ 90000) : ∀ (n i : Nat) (c : Nat), nds.length < n + i → i ≤ nds.length → 0 < c → c ≤ 10000 →
    f2 n m (c:Int) (Int.ofNat m.length) (i:Int) nds lks l2 q lA pA true=bif nle (c * cd ((ms.map (·.length)).drop i)) 10000 then f1 m ((c * cd ((ms.map (·.length)).drop i):Nat):Int) nds lks l2 q lA pA true else ret false l2 q lA pA true []:=by
  intro n
  induction n with
  | zero=>intro i c h1 h2; omega
  | succ n ih =>
    intro i c h1 h2 h3 h4
    show sh2 m (c:Int) (Int.ofNat m.length) (i:Int) nds lks l2 q lA pA true f1 (f2 n)=_
    unfold sh2
    by_cases hi:i < nds.length
    · have hm1 : i < m.length := by rw [hmk.h1]; omega
      have hm2:i < ms.length:=by rw [hmk.h2]; omega
      obtain ⟨q1,q2,q3⟩:=hmk.len i hm1 hm2
      have hdr:(ms.map (·.length)).drop i=ms[i].length :: (ms.map (·.length)).drop (i+1):=by rw [bc (by simpa using hm2)]; simp
      have hmul:c * ms[i].length≤10000 * 100000:=Nat.mul_le_mul h4 q2
      have ew:IntKind.wrap .i64 ((c:Int) * (ms[i].length:Int))=((c * ms[i].length:Nat):Int):=by
        rw [← Int.natCast_mul]; exact eF (by omega) (by omega)
      rw [aX (by simp; omega),aW hm1,ak,df hm1,ar hm1,q3,ew,hdr]
      simp only [cd,bG,bL]
      rw [← Nat.mul_assoc]
      have hpos:0 < cd ((ms.map (·.length)).drop (i+1)):=lg fun x hx=>by
        obtain ⟨y,hy,rfl⟩:=List.mem_map.1 (List.mem_of_mem_drop hx)
        obtain ⟨j,hj,rfl⟩:=List.getElem_of_mem hy
        exact (hmk.len j (by rw [hmk.h1,← hmk.h2]; exact hj) hj).1
      by_cases hb:c * ms[i].length≤10000
      · rw [aR (by omega)]
        show f2 n m ((c * ms[i].length:Nat):Int) (Int.ofNat m.length) (IntKind.wrap .i64 ((i:Int)+1)) nds lks l2 q lA pA true=_
        rw [bD i (by omega)]
        exact ih (i+1) _ (by omega) hi (Nat.mul_pos h3 q1) hb
      · rw [aX (by omega)]
        have:¬ c * ms[i].length * cd ((ms.map (·.length)).drop (i+1))≤10000:=fun h=>by
          have:=Nat.le_mul_of_pos_right (c * ms[i].length) hpos
          omega
        rw [show nle (c * ms[i].length * cd ((ms.map (·.length)).drop (i+1))) 10000=false from decide_eq_false this]
        rfl
    · have e : i = nds.length := by omega
      subst e
      rw [aR (by simp [hmk.h1]),List.drop_eq_nil_of_le (by simp [hmk.h2])]
      simp only [cd,Nat.mul_one]
      rw [bE h4]
      rfl
theorem f0_eq (l:List Rule) (n:Net) (s:List UInt8) (l2:List Rule) (q:List UInt8) (lA:List Node) (pA:List Lnk) (cm:Bool) (h:(okN n&&(a6 l&&(cm&&dK l n s l2 lA)))=true):f0 l n s l2 q lA pA cm=ret (cN l n s) l2 q lA pA (bif cN l n s then Option.isNone (na l n s l2 q lA) else cm) (bif cN l n s then pX l n s l2 q lA else []):=by
  simp only [Bool.and_eq_true] at h
  obtain ⟨hok,hr,hcm,hco⟩:=h
  have hmk:=se (s:=s) (n:=n) hr
  have hn:=bQ (cr hok)
  show sh0 l n s l2 q lA pA cm (f2 100000)=_
  unfold sh0
  rw [hok,hr,hcm]
  have e2:=loop2 l2 q lA pA n.nds n.lks (bt l n s) (cM l n s) hmk hn 100000 0 1 (by omega) (by omega) (by omega) (by omega)
  rw [List.drop_zero,Nat.one_mul] at e2
  refine (show f2 100000 (bt l n s) ((1:Nat):Int) (Int.ofNat (bt l n s).length) ((0:Nat):Int) n.nds n.lks l2 q lA pA true=_ from e2).trans ?_
  show (bif cN l n s then f1 (bt l n s) ((dg l n s:Nat):Int) n.nds n.lks l2 q lA pA true else ret false l2 q lA pA true [])=_
  cases hf:cN l n s with
  | false=>rfl
  | true =>
    have hc:dg l n s≤10000:=bQ hf
    show sh1 (bt l n s) ((dg l n s:Nat):Int) n.nds n.lks l2 q lA pA true (f4 100000)=_
    unfold sh1
    rw [b7 (show (0:Int)≤Int.ofNat (bt l n s).length by simp),b7 (Int.le_refl (Int.ofNat (bt l n s).length)),b7 (show Int.ofNat (bt l n s).length * 8≤140737488355328 by simp [hmk.h1]; omega)]
    have e4:=loop4 l2 q lA pA n.nds n.lks (bt l n s) (cM l n s) hmk hn (dg l n s) hc (fun v hv=>la hco hv) 100000 0 (by omega) (by omega)
    rw [li,hmk.h2] at e4
    have er:List.replicate (Int.toNat (Int.ofNat (bt l n s).length)) aL=List.replicate n.nds.length (0:Int):=by rw [cR,hmk.h1]; rfl
    rw [er]
    refine (show f4 100000 (bt l n s) (List.replicate n.nds.length 0) ((dg l n s:Nat):Int) ((0:Nat):Int) n.nds n.lks l2 q lA pA true []=_ from e4).trans ?_
    rw [Nat.sub_zero]
    show resO l2 q lA pA (cM l n s) (na l n s l2 q lA)=_
    unfold pX
    cases na l n s l2 q lA<;>rfl
theorem ok:CtxOk Tryz.prog X:=aI tab (spC marks.spOk spN) dpN
theorem okM:MOk Tryz.prog X:=eD _ (mpC (jm ok comp1.spOk) mpN)
theorem spec (l:List Rule) (n:Net) (s:List UInt8) (l2:List Rule) (s2:List UInt8) (lA:List Node) (pA:List Lnk) (cm:Bool) (h:((okN n&&(a6 l&&(cm&&dK l n s l2 lA))))=true):gl Tryz.prog E 71 [(.lst .rule l),(.agg [(.lst .node n.nds),(.lst .link n.lks)]),(.str s),(.fn 72 [] [(.ptr 1000000000 0),(.ptr 1000000001 0),(.ptr 1000000002 0),(.ptr 1000000003 0),(.ptr 1000000004 0)])] [(1000000000,(.box 1000000000 [(.lst .rule l2)])),(1000000001,(.box 1000000001 [(.str s2)])),(1000000002,(.box 1000000002 [(.lst .node lA),(.lst .link pA)])),(1000000003,(.box 1000000003 [(.bool cm)])),(1000000004,(.box 1000000004 [.nils]))] (.bool (cN l n s)) [(1000000000,(.box 1000000000 [(.lst .rule l2)])),(1000000001,(.box 1000000001 [(.str s2)])),(1000000002,(.box 1000000002 [(.lst .node lA),(.lst .link pA)])),(1000000003,(.box 1000000003 [(.bool (bif cN l n s then Option.isNone (na l n s l2 s2 lA) else cm))])),(1000000004,(.box 1000000004 [(.lst .int ((bif cN l n s then pX l n s l2 s2 lA else [])))]))] :=
  eE ok okM Tryz.func71 (by kernel_rfl) (by kernel_rfl) (by kernel_rfl) (by show 4≤109; decide) ((run l n s l2 s2 lA pA cm).trans (f0_eq l n s l2 s2 lA pA cm h))
noncomputable def sp:MSp U El:=fun args hs k=>match args,hs with
  | [.lst .rule l,.agg [.lst .node n_nds,.lst .link n_lks],.str s,.fn 72 [] [.ptr q0 0,.ptr q1 0,.ptr q2 0,.ptr q3 0,.ptr q4 0]],[(q5,.box q6 [.lst .rule l2]),(q7,.box q8 [.str s2]),(q9,.box q10 [.lst .node lA,.lst .link pA]),(q11,.box q12 [.bool cm]),(q13,.box q14 [.nils])]=>chk (Nat.beq q0 1000000000&&(Nat.beq q1 1000000001&&(Nat.beq q2 1000000002&&(Nat.beq q3 1000000003&&(Nat.beq q4 1000000004&&(Nat.beq q5 1000000000&&(Nat.beq q6 1000000000&&(Nat.beq q7 1000000001&&(Nat.beq q8 1000000001&&(Nat.beq q9 1000000002&&(Nat.beq q10 1000000002&&(Nat.beq q11 1000000003&&(Nat.beq q12 1000000003&&(Nat.beq q13 1000000004&&(Nat.beq q14 1000000004&&true))))))))))))))) (chk ((okN (⟨n_nds,n_lks⟩:Net)&&(a6 l&&(cm&&dK l (⟨n_nds,n_lks⟩:Net) s l2 lA)))) (k (.bool (cN l (⟨n_nds,n_lks⟩:Net) s)) [(1000000000,(.box 1000000000 [(.lst .rule l2)])),(1000000001,(.box 1000000001 [(.str s2)])),(1000000002,(.box 1000000002 [(.lst .node lA),(.lst .link pA)])),(1000000003,(.box 1000000003 [(.bool (bif cN l (⟨n_nds,n_lks⟩:Net) s then Option.isNone (na l (⟨n_nds,n_lks⟩:Net) s l2 s2 lA) else cm))])),(1000000004,(.box 1000000004 [(.lst .int ((bif cN l (⟨n_nds,n_lks⟩:Net) s then pX l (⟨n_nds,n_lks⟩:Net) s l2 s2 lA else [])))]))]))
  | _,_=>none
theorem spOk:jE Tryz.prog E 71 sp:=⟨Tryz.call71,fun args hs k r h=>by
  unfold sp at h
  split at h
  · obtain ⟨hq, hA⟩ := af h
    clear h
    simp only [Bool.and_eq_true] at hq
    obtain ⟨e0,e1,e2,e3,e4,e5,e6,e7,e8,e9,e10,e11,e12,e13,e14,_⟩:=hq
    cases Nat.eq_of_beq_eq_true e0
    cases Nat.eq_of_beq_eq_true e1
    cases Nat.eq_of_beq_eq_true e2
    cases Nat.eq_of_beq_eq_true e3
    cases Nat.eq_of_beq_eq_true e4
    cases Nat.eq_of_beq_eq_true e5
    cases Nat.eq_of_beq_eq_true e6
    cases Nat.eq_of_beq_eq_true e7
    cases Nat.eq_of_beq_eq_true e8
    cases Nat.eq_of_beq_eq_true e9
    cases Nat.eq_of_beq_eq_true e10
    cases Nat.eq_of_beq_eq_true e11
    cases Nat.eq_of_beq_eq_true e12
    cases Nat.eq_of_beq_eq_true e13
    cases Nat.eq_of_beq_eq_true e14
    obtain ⟨h1,hB⟩:=af hA
    exact ⟨_,_,spec _ ⟨_,_⟩ _ _ _ _ _ _ h1,hB⟩
  · cases h⟩
theorem spDet:∀ args hs,∃ oo:Option (AV U El×aK U El),∀ k,sp args hs k=oo.bind fun p=>k p.1 p.2:=fun args hs=>by
  unfold sp
  split
  · exact cY (cY ⟨some (_,_),fun _=>rfl⟩)
  · exact ⟨none,fun _=>rfl⟩
end cornersC
namespace cornersV
noncomputable def bd:Code:=(Tryz.f71.body).getD .skip
noncomputable def X:Ctx U El:=⟨E,tds,zeros,eqs,aC [(119,marks.sp)],100000,109,ap [],eP [(75,(pE cov1.sp))]⟩
noncomputable def nmR:Norm U:=⟨[],[8],[1000000000,1000000001,1000000002,1000000003],[],[],[],[]⟩
noncomputable def RR:ab U El:=fun st=>aE nmR st (jd [8])
noncomputable def nm1:Norm U:=⟨[(9,.ints)],[3,5,9,10],[9,5,1000000000,1000000001,1000000002,1000000003],[],[],[],[(5,0,.node),(5,1,.link),(1000000000,0,.rule),(1000000002,0,.node),(1000000002,1,.link)]⟩
noncomputable def nm2:Norm U:=⟨[(9,.ints)],[3,5,9,10,22,23,24],[9,5,1000000000,1000000001,1000000002,1000000003],[],[],[],[(5,0,.node),(5,1,.link),(1000000000,0,.rule),(1000000002,0,.node),(1000000002,1,.link)]⟩
noncomputable def nm3:Norm U:=⟨[],[],[1000000000,1000000001,1000000002,1000000003],[],[],[],[(1000000000,0,.rule),(1000000002,0,.node),(1000000002,1,.link)]⟩
noncomputable def nm4:Norm U:=⟨[(9,.ints),(13,.int)],[3,5,9,13,39,40],[9,13,5,1000000000,1000000001,1000000002,1000000003],[],[],[],[(5,0,.node),(5,1,.link),(1000000000,0,.rule),(1000000002,0,.node),(1000000002,1,.link)]⟩
noncomputable def nm5:Norm U:=⟨[(9,.ints),(13,.int)],[3,5,9,13,39,40],[9,13,5,1000000000,1000000001,1000000002,1000000003],[],[],[],[(5,0,.node),(5,1,.link),(1000000000,0,.rule),(1000000002,0,.node),(1000000002,1,.link)]⟩
noncomputable def nm6:Norm U:=⟨[(9,.ints),(13,.int),(14,.int)],[3,5,9,13,14,39,40],[9,13,14,5,1000000000,1000000001,1000000002,1000000003],[],[],[],[(5,0,.node),(5,1,.link),(1000000000,0,.rule),(1000000002,0,.node),(1000000002,1,.link)]⟩
noncomputable def nm7:Norm U:=⟨[(9,.ints),(13,.int),(14,.int)],[3,5,9,13,14,39,40,46,47,48],[9,13,14,5,1000000000,1000000001,1000000002,1000000003],[],[],[],[(5,0,.node),(5,1,.link),(1000000000,0,.rule),(1000000002,0,.node),(1000000002,1,.link)]⟩
noncomputable def nm8:Norm U:=⟨[(9,.ints),(13,.int),(14,.int)],[3,5,9,13,14,39,40,46,47,48],[9,13,14,5,1000000000,1000000001,1000000002,1000000003],[],[],[],[(5,0,.node),(5,1,.link),(1000000000,0,.rule),(1000000002,0,.node),(1000000002,1,.link)]⟩
noncomputable def nm9:Norm U:=⟨[(9,.ints),(13,.int)],[3,5,9,13,17,39,40],[9,13,5,1000000000,1000000001,1000000002,1000000003],[],[],[],[(5,0,.node),(5,1,.link),(1000000000,0,.rule),(1000000002,0,.node),(1000000002,1,.link)]⟩
abbrev Y1:=(List (List Int))→Int→(List Node)→(List Lnk)→(List Rule)→Int→(List Node)→(List Lnk)→Bool→R
abbrev Y2:=(List (List Int))→Int→Int→Int→(List Node)→(List Lnk)→(List Rule)→Int→(List Node)→(List Lnk)→Bool→R
abbrev Y3:=(List Rule)→Int→(List Node)→(List Lnk)→Bool→R
abbrev Y4:=(List (List Int))→(List Int)→Int→Int→(List Node)→(List Lnk)→(List Rule)→Int→(List Node)→(List Lnk)→Bool→R
abbrev Y5:=(List (List Int))→(List Int)→Int→Int→(List Node)→(List Lnk)→(List Rule)→Int→(List Node)→(List Lnk)→Bool→R
abbrev Y6:=(List (List Int))→(List Int)→(List Int)→Int→Int→(List Node)→(List Lnk)→(List Rule)→Int→(List Node)→(List Lnk)→Bool→R
abbrev Y7:=(List (List Int))→(List Int)→(List Int)→Int→Int→(List Node)→Int→Int→(List Node)→(List Lnk)→(List Rule)→Int→(List Node)→(List Lnk)→Bool→R
abbrev Y8:=(List (List Int))→(List Int)→(List Int)→Int→Int→(List Node)→Int→Int→(List Node)→(List Lnk)→(List Rule)→Int→(List Node)→(List Lnk)→Bool→R
abbrev Y9:=(List (List Int))→(List Int)→Int→Int→Int→(List Node)→(List Lnk)→(List Rule)→Int→(List Node)→(List Lnk)→Bool→R
noncomputable def fr0 (l:List Rule) (n:Net) (s:List UInt8) (l2:List Rule) (kk:Int) (lA:List Node) (pA:List Lnk) (cv:Bool):St U El:=⟨[(0,(.lst .rule l)),(1,(.agg [(.lst .node n.nds),(.lst .link n.lks)])),(2,(.str s)),(3,(.fn 75 [] [(.ptr 1000000000 0),(.ptr 1000000001 0),(.ptr 1000000002 0),(.ptr 1000000003 0)]))],[(1000000000,(.box 1000000000 [(.lst .rule l2)])),(1000000001,(.box 1000000001 [(.int .i64 kk)])),(1000000002,(.box 1000000002 [(.lst .node lA),(.lst .link pA)])),(1000000003,(.box 1000000003 [(.bool cv)]))]⟩
noncomputable def fr1 (m9:List (List Int)) (mA:Int) (gA:List Node) (iA:List Lnk) (dA:List Rule) (bA:Int) (aA:List Node) (eA:List Lnk) (cA:Bool):St U El:=⟨[(3,(.fn 75 [] [(.ptr 1000000000 0),(.ptr 1000000001 0),(.ptr 1000000002 0),(.ptr 1000000003 0)])),(5,(.ptr 5 0)),(9,(.ful 9)),(10,(.int .i64 mA))],[(9,(.rows .ints m9)),(5,(.box 0 [(.lst .node gA),(.lst .link iA)])),(1000000000,(.box 1000000000 [(.lst .rule dA)])),(1000000001,(.box 1000000001 [(.int .i64 bA)])),(1000000002,(.box 1000000002 [(.lst .node aA),(.lst .link eA)])),(1000000003,(.box 1000000003 [(.bool cA)]))]⟩
noncomputable def fr2 (m9:List (List Int)) (mA:Int) (bB:Int) (vA:Int) (gA:List Node) (iA:List Lnk) (dA:List Rule) (bA:Int) (aA:List Node) (eA:List Lnk) (cA:Bool):St U El:=⟨[(3,(.fn 75 [] [(.ptr 1000000000 0),(.ptr 1000000001 0),(.ptr 1000000002 0),(.ptr 1000000003 0)])),(5,(.ptr 5 0)),(9,(.ful 9)),(10,(.int .i64 mA)),(22,(.ful 9)),(23,(.int .i64 bB)),(24,(.int .i64 vA))],[(9,(.rows .ints m9)),(5,(.box 0 [(.lst .node gA),(.lst .link iA)])),(1000000000,(.box 1000000000 [(.lst .rule dA)])),(1000000001,(.box 1000000001 [(.int .i64 bA)])),(1000000002,(.box 1000000002 [(.lst .node aA),(.lst .link eA)])),(1000000003,(.box 1000000003 [(.bool cA)]))]⟩
noncomputable def fr3 (dA:List Rule) (bA:Int) (aA:List Node) (eA:List Lnk) (cA:Bool):St U El:=⟨[],[(1000000000,(.box 1000000000 [(.lst .rule dA)])),(1000000001,(.box 1000000001 [(.int .i64 bA)])),(1000000002,(.box 1000000002 [(.lst .node aA),(.lst .link eA)])),(1000000003,(.box 1000000003 [(.bool cA)]))]⟩
noncomputable def fr4 (m9:List (List Int)) (kA:List Int) (nA:Int) (oA:Int) (gA:List Node) (iA:List Lnk) (dA:List Rule) (bA:Int) (aA:List Node) (eA:List Lnk) (cA:Bool):St U El:=⟨[(3,(.fn 75 [] [(.ptr 1000000000 0),(.ptr 1000000001 0),(.ptr 1000000002 0),(.ptr 1000000003 0)])),(5,(.ptr 5 0)),(9,(.ful 9)),(13,(.ful 13)),(39,(.int .i64 nA)),(40,(.int .i64 oA))],[(9,(.rows .ints m9)),(13,(.rows .int kA)),(5,(.box 0 [(.lst .node gA),(.lst .link iA)])),(1000000000,(.box 1000000000 [(.lst .rule dA)])),(1000000001,(.box 1000000001 [(.int .i64 bA)])),(1000000002,(.box 1000000002 [(.lst .node aA),(.lst .link eA)])),(1000000003,(.box 1000000003 [(.bool cA)]))]⟩
noncomputable def fr5 (m9:List (List Int)) (kA:List Int) (nA:Int) (oA:Int) (gA:List Node) (iA:List Lnk) (dA:List Rule) (bA:Int) (aA:List Node) (eA:List Lnk) (cA:Bool):St U El:=⟨[(3,(.fn 75 [] [(.ptr 1000000000 0),(.ptr 1000000001 0),(.ptr 1000000002 0),(.ptr 1000000003 0)])),(5,(.ptr 5 0)),(9,(.ful 9)),(13,(.ful 13)),(39,(.int .i64 nA)),(40,(.int .i64 oA))],[(9,(.rows .ints m9)),(13,(.rows .int kA)),(5,(.box 0 [(.lst .node gA),(.lst .link iA)])),(1000000000,(.box 1000000000 [(.lst .rule dA)])),(1000000001,(.box 1000000001 [(.int .i64 bA)])),(1000000002,(.box 1000000002 [(.lst .node aA),(.lst .link eA)])),(1000000003,(.box 1000000003 [(.bool cA)]))]⟩
noncomputable def fr6 (m9:List (List Int)) (kA:List Int) (fA:List Int) (nA:Int) (oA:Int) (gA:List Node) (iA:List Lnk) (dA:List Rule) (bA:Int) (aA:List Node) (eA:List Lnk) (cA:Bool):St U El:=⟨[(3,(.fn 75 [] [(.ptr 1000000000 0),(.ptr 1000000001 0),(.ptr 1000000002 0),(.ptr 1000000003 0)])),(5,(.ptr 5 0)),(9,(.ful 9)),(13,(.ful 13)),(14,(.ful 14)),(39,(.int .i64 nA)),(40,(.int .i64 oA))],[(9,(.rows .ints m9)),(13,(.rows .int kA)),(14,(.rows .int fA)),(5,(.box 0 [(.lst .node gA),(.lst .link iA)])),(1000000000,(.box 1000000000 [(.lst .rule dA)])),(1000000001,(.box 1000000001 [(.int .i64 bA)])),(1000000002,(.box 1000000002 [(.lst .node aA),(.lst .link eA)])),(1000000003,(.box 1000000003 [(.bool cA)]))]⟩
noncomputable def fr7 (m9:List (List Int)) (kA:List Int) (fA:List Int) (nA:Int) (oA:Int) (tA:List Node) (uA:Int) (rA:Int) (gA:List Node) (iA:List Lnk) (dA:List Rule) (bA:Int) (aA:List Node) (eA:List Lnk) (cA:Bool):St U El:=⟨[(3,(.fn 75 [] [(.ptr 1000000000 0),(.ptr 1000000001 0),(.ptr 1000000002 0),(.ptr 1000000003 0)])),(5,(.ptr 5 0)),(9,(.ful 9)),(13,(.ful 13)),(14,(.ful 14)),(39,(.int .i64 nA)),(40,(.int .i64 oA)),(46,(.lst .node tA)),(47,(.int .i64 uA)),(48,(.int .i64 rA))],[(9,(.rows .ints m9)),(13,(.rows .int kA)),(14,(.rows .int fA)),(5,(.box 0 [(.lst .node gA),(.lst .link iA)])),(1000000000,(.box 1000000000 [(.lst .rule dA)])),(1000000001,(.box 1000000001 [(.int .i64 bA)])),(1000000002,(.box 1000000002 [(.lst .node aA),(.lst .link eA)])),(1000000003,(.box 1000000003 [(.bool cA)]))]⟩
noncomputable def fr8 (m9:List (List Int)) (kA:List Int) (fA:List Int) (nA:Int) (oA:Int) (tA:List Node) (uA:Int) (rA:Int) (gA:List Node) (iA:List Lnk) (dA:List Rule) (bA:Int) (aA:List Node) (eA:List Lnk) (cA:Bool):St U El:=⟨[(3,(.fn 75 [] [(.ptr 1000000000 0),(.ptr 1000000001 0),(.ptr 1000000002 0),(.ptr 1000000003 0)])),(5,(.ptr 5 0)),(9,(.ful 9)),(13,(.ful 13)),(14,(.ful 14)),(39,(.int .i64 nA)),(40,(.int .i64 oA)),(46,(.lst .node tA)),(47,(.int .i64 uA)),(48,(.int .i64 rA))],[(9,(.rows .ints m9)),(13,(.rows .int kA)),(14,(.rows .int fA)),(5,(.box 0 [(.lst .node gA),(.lst .link iA)])),(1000000000,(.box 1000000000 [(.lst .rule dA)])),(1000000001,(.box 1000000001 [(.int .i64 bA)])),(1000000002,(.box 1000000002 [(.lst .node aA),(.lst .link eA)])),(1000000003,(.box 1000000003 [(.bool cA)]))]⟩
noncomputable def fr9 (m9:List (List Int)) (kA:List Int) (sA:Int) (nA:Int) (oA:Int) (gA:List Node) (iA:List Lnk) (dA:List Rule) (bA:Int) (aA:List Node) (eA:List Lnk) (cA:Bool):St U El:=⟨[(3,(.fn 75 [] [(.ptr 1000000000 0),(.ptr 1000000001 0),(.ptr 1000000002 0),(.ptr 1000000003 0)])),(5,(.ptr 5 0)),(9,(.ful 9)),(13,(.ful 13)),(17,(.int .i64 sA)),(39,(.int .i64 nA)),(40,(.int .i64 oA))],[(9,(.rows .ints m9)),(13,(.rows .int kA)),(5,(.box 0 [(.lst .node gA),(.lst .link iA)])),(1000000000,(.box 1000000000 [(.lst .rule dA)])),(1000000001,(.box 1000000001 [(.int .i64 bA)])),(1000000002,(.box 1000000002 [(.lst .node aA),(.lst .link eA)])),(1000000003,(.box 1000000003 [(.bool cA)]))]⟩
noncomputable def sh0 (l:List Rule) (n:Net) (s:List UInt8) (l2:List Rule) (kk:Int) (lA:List Node) (pA:List Lnk) (cv:Bool) (k2:Y2):R :=
  chk ((okN n&&a6 l)) (k2 (bt l n s) (1:Int) (Int.ofNat (List.length (bt l n s))) (0:Int) n.nds n.lks l2 kk lA pA cv)
noncomputable def sh1 (m9:List (List Int)) (mA:Int) (gA:List Node) (iA:List Lnk) (dA:List Rule) (bA:Int) (aA:List Node) (eA:List Lnk) (cA:Bool) (k4:Y4):R :=
  chk (ile 0 (Int.ofNat (List.length m9))&&ile (Int.ofNat (List.length m9)) (Int.ofNat (List.length m9))&&ile ((Int.ofNat (List.length m9)) * 8) 140737488355328) (k4 m9 (List.replicate (Int.toNat (Int.ofNat (List.length m9))) aL) mA (0:Int) gA iA dA bA aA eA cA)
noncomputable def sh2 (m9:List (List Int)) (mA:Int) (bB:Int) (vA:Int) (gA:List Node) (iA:List Lnk) (dA:List Rule) (bA:Int) (aA:List Node) (eA:List Lnk) (cA:Bool) (k1:Y1) (k2:Y2):R :=
  aa (ilt vA bB) (chk (inb vA (List.length m9)) (chk (nlt (Int.toNat vA) (List.length m9)) (aa (ilt (10000:Int) (IntKind.wrap .i64 (mA * (bif ilt (1:Int) (Int.ofNat (List.length (List.getD m9 (Int.toNat vA) cL))) then (Int.ofNat (List.length (List.getD m9 (Int.toNat vA) cL))) else (1:Int))))) (some ((.bool false),[(1000000000,(.box 1000000000 [(.lst .rule dA)])),(1000000001,(.box 1000000001 [(.int .i64 bA)])),(1000000002,(.box 1000000002 [(.lst .node aA),(.lst .link eA)])),(1000000003,(.box 1000000003 [(.bool cA)]))])) (k2 m9 (IntKind.wrap .i64 (mA * (bif ilt (1:Int) (Int.ofNat (List.length (List.getD m9 (Int.toNat vA) cL))) then (Int.ofNat (List.length (List.getD m9 (Int.toNat vA) cL))) else (1:Int)))) bB (IntKind.wrap .i64 (vA+(1:Int))) gA iA dA bA aA eA cA)))) (k1 m9 mA gA iA dA bA aA eA cA)
noncomputable def sh3 (dA:List Rule) (bA:Int) (aA:List Node) (eA:List Lnk) (cA:Bool):R :=
  some ((.bool true),[(1000000000,(.box 1000000000 [(.lst .rule dA)])),(1000000001,(.box 1000000001 [(.int .i64 bA)])),(1000000002,(.box 1000000002 [(.lst .node aA),(.lst .link eA)])),(1000000003,(.box 1000000003 [(.bool cA)]))])
noncomputable def sh4 (m9:List (List Int)) (kA:List Int) (nA:Int) (oA:Int) (gA:List Node) (iA:List Lnk) (dA:List Rule) (bA:Int) (aA:List Node) (eA:List Lnk) (cA:Bool) (k3:Y3) (k7:Y7):R :=
  aa (ilt oA nA) (chk (ile 0 (Int.ofNat (List.length m9))&&ile (Int.ofNat (List.length m9)) (Int.ofNat (List.length m9))&&ile ((Int.ofNat (List.length m9)) * 8) 140737488355328) (k7 m9 kA (List.replicate (Int.toNat (Int.ofNat (List.length m9))) aL) nA oA gA (Int.ofNat (List.length gA)) (0:Int) gA iA dA bA aA eA cA)) (k3 dA bA aA eA cA)
noncomputable def sh5 (m9:List (List Int)) (kA:List Int) (nA:Int) (oA:Int) (gA:List Node) (iA:List Lnk) (dA:List Rule) (bA:Int) (aA:List Node) (eA:List Lnk) (cA:Bool) (k4:Y4):R :=
  k4 m9 kA nA (IntKind.wrap .i64 (oA+(1:Int))) gA iA dA bA aA eA cA
noncomputable def sh6 (m9:List (List Int)) (kA:List Int) (fA:List Int) (nA:Int) (oA:Int) (gA:List Node) (iA:List Lnk) (dA:List Rule) (bA:Int) (aA:List Node) (eA:List Lnk) (cA:Bool) (k9:Y9):R :=
  chk ((dt dA bA&&(nle (List.length dA) 90000&&List.all dA (bl aA fA)))) (aa (!((bif dC dA bA aA fA then ia dA bA aA fA else true))) (some ((.bool true),[(1000000000,(.box 1000000000 [(.lst .rule dA)])),(1000000001,(.box 1000000001 [(.int .i64 bA)])),(1000000002,(.box 1000000002 [(.lst .node aA),(.lst .link eA)])),(1000000003,(.box 1000000003 [(.bool ((bif dC dA bA aA fA then ia dA bA aA fA else cA)))]))])) (k9 m9 kA (IntKind.wrap .i64 ((Int.ofNat (List.length kA)) - (1:Int))) nA oA gA iA dA bA aA eA ((bif dC dA bA aA fA then ia dA bA aA fA else cA))))
noncomputable def sh7 (m9:List (List Int)) (kA:List Int) (fA:List Int) (nA:Int) (oA:Int) (tA:List Node) (uA:Int) (rA:Int) (gA:List Node) (iA:List Lnk) (dA:List Rule) (bA:Int) (aA:List Node) (eA:List Lnk) (cA:Bool) (k6:Y6) (k8:Y8):R :=
  aa (ilt rA uA) (chk (inb rA (List.length tA)) (chk (inb rA (List.length fA)) (chk (nlt (Int.toNat rA) (List.length fA)&&true) (chk (inb rA (List.length m9)) (chk (nlt (Int.toNat rA) (List.length m9)) (aa (ilt (0:Int) (Int.ofNat (List.length (List.getD m9 (Int.toNat rA) cL)))) (chk (inb rA (List.length m9)) (chk (nlt (Int.toNat rA) (List.length m9)) (chk (inb rA (List.length kA)) (chk (nlt (Int.toNat rA) (List.length kA)) (chk (inb (List.getD kA (Int.toNat rA) aL) (List.length (List.getD m9 (Int.toNat rA) cL))) (chk (inb rA (List.length (List.set fA (Int.toNat rA) ((List.getD tA (Int.toNat rA) aO).ni)))) (chk (nlt (Int.toNat rA) (List.length (List.set fA (Int.toNat rA) ((List.getD tA (Int.toNat rA) aO).ni)))&&true) (k8 m9 kA (List.set (List.set fA (Int.toNat rA) ((List.getD tA (Int.toNat rA) aO).ni)) (Int.toNat rA) (List.getD (List.getD m9 (Int.toNat rA) cL) (Int.toNat (List.getD kA (Int.toNat rA) aL)) aL)) nA oA tA uA rA gA iA dA bA aA eA cA)))))))) (k8 m9 kA (List.set fA (Int.toNat rA) ((List.getD tA (Int.toNat rA) aO).ni)) nA oA tA uA rA gA iA dA bA aA eA cA))))))) (k6 m9 kA fA nA oA gA iA dA bA aA eA cA)
noncomputable def sh8 (m9:List (List Int)) (kA:List Int) (fA:List Int) (nA:Int) (oA:Int) (tA:List Node) (uA:Int) (rA:Int) (gA:List Node) (iA:List Lnk) (dA:List Rule) (bA:Int) (aA:List Node) (eA:List Lnk) (cA:Bool) (k7:Y7):R :=
  k7 m9 kA fA nA oA tA uA (IntKind.wrap .i64 (rA+(1:Int))) gA iA dA bA aA eA cA
noncomputable def sh9 (m9:List (List Int)) (kA:List Int) (sA:Int) (nA:Int) (oA:Int) (gA:List Node) (iA:List Lnk) (dA:List Rule) (bA:Int) (aA:List Node) (eA:List Lnk) (cA:Bool) (k5:Y5) (k9:Y9):R :=
  aa (ile (0:Int) sA) (chk (inb sA (List.length kA)) (chk (nlt (Int.toNat sA) (List.length kA)) (chk (inb sA (List.length kA)) (chk (nlt (Int.toNat sA) (List.length kA)&&true) (chk (inb sA (List.length (List.set kA (Int.toNat sA) (IntKind.wrap .i64 ((List.getD kA (Int.toNat sA) aL)+(1:Int)))))) (chk (nlt (Int.toNat sA) (List.length (List.set kA (Int.toNat sA) (IntKind.wrap .i64 ((List.getD kA (Int.toNat sA) aL)+(1:Int)))))) (chk (inb sA (List.length m9)) (chk (nlt (Int.toNat sA) (List.length m9)) (aa (ilt (List.getD (List.set kA (Int.toNat sA) (IntKind.wrap .i64 ((List.getD kA (Int.toNat sA) aL)+(1:Int)))) (Int.toNat sA) aL) (Int.ofNat (List.length (List.getD m9 (Int.toNat sA) cL)))) (k5 m9 (List.set kA (Int.toNat sA) (IntKind.wrap .i64 ((List.getD kA (Int.toNat sA) aL)+(1:Int)))) nA oA gA iA dA bA aA eA cA) (chk (inb sA (List.length (List.set kA (Int.toNat sA) (IntKind.wrap .i64 ((List.getD kA (Int.toNat sA) aL)+(1:Int)))))) (chk (nlt (Int.toNat sA) (List.length (List.set kA (Int.toNat sA) (IntKind.wrap .i64 ((List.getD kA (Int.toNat sA) aL)+(1:Int)))))&&true) (k9 m9 (List.set (List.set kA (Int.toNat sA) (IntKind.wrap .i64 ((List.getD kA (Int.toNat sA) aL)+(1:Int)))) (Int.toNat sA) (0:Int)) (IntKind.wrap .i64 (sA - (1:Int))) nA oA gA iA dA bA aA eA cA)))))))))))) (k5 m9 kA nA oA gA iA dA bA aA eA cA)
noncomputable def it2 (Kb1:ab U El) (n:Nat):ab U El:=bw nm2 (fun st' K'=>ac X (cdp [1,1,1,0,1,0,0] bd) .d st' K' (aq 0 (ah nm1 Kb1) (fun _ _=>none)) RR) n
noncomputable def it4 (Kb3:ab U El) (n:Nat):ab U El:=bw nm4 (fun st' K'=>ac X (cdp [1,1,1,1,1,0,1,0,0] bd) (.seq none .d (.seq none .d (.seq (some nm5) (.block (.seq none .d (.seq (some nm6) (.seq none .d (.block (.loop nm7 (.seq none .d (.seq none .d (.seq (some nm8) (.block (.seq none .d (.seq none .d (.seq none .d (.cond (.region [(13,14)]) .d))))) .d)))))) (.seq none .d (.seq none .d (.block (.loop nm9 .d))))))) .d))) st' K' (aq 2 (ah nm3 Kb3) (fun _ _=>none)) RR) n
noncomputable def it7 (Kb3 Kb5 Kb6:ab U El) (n:Nat):ab U El:=bw nm7 (fun st' K'=>ac X (cdp [1,1,1,1,1,0,1,0,0,1,1,0,0,1,0,1,0,0] bd) (.seq none .d (.seq none .d (.seq (some nm8) (.block (.seq none .d (.seq none .d (.seq none .d (.cond (.region [(13,14)]) .d))))) .d))) st' K' (aq 4 (ah nm6 Kb6) (aq 3 (ah nm5 Kb5) (aq 2 (ah nm3 Kb3) (fun _ _=>none)))) RR) n
noncomputable def it9 (Kb3 Kb5:ab U El) (n:Nat):ab U El:=bw nm9 (fun st' K'=>ac X (cdp [1,1,1,1,1,0,1,0,0,1,1,0,0,1,1,1,1,0,0] bd) .d st' K' (aq 6 (ah nm5 Kb5) (aq 3 (ah nm5 Kb5) (aq 2 (ah nm3 Kb3) (fun _ _=>none)))) RR) n
noncomputable def ct1:ab U El:=fun st=>ac X (cdp [1,1,1,1] bd) (.seq none .d (.seq (some nm3) (.seq none .d (.block (.loop nm4 (.seq none .d (.seq none .d (.seq (some nm5) (.block (.seq none .d (.seq (some nm6) (.seq none .d (.block (.loop nm7 (.seq none .d (.seq none .d (.seq (some nm8) (.block (.seq none .d (.seq none .d (.seq none .d (.cond (.region [(13,14)]) .d))))) .d)))))) (.seq none .d (.seq none .d (.block (.loop nm9 .d))))))) .d)))))) .d)) st RR (fun _ _=>none) RR
noncomputable def ct3:ab U El:=fun st=>ac X (cdp [1,1,1,1,1,1] bd) .d st RR (fun _ _=>none) RR
noncomputable def ct5 (Kb3 Kb4:ab U El):ab U El:=fun st=>ac X (cdp [1,1,1,1,1,0,1,0,0,1,1,1] bd) .d st (ah nm4 Kb4) (aq 2 (ah nm3 Kb3) (fun _ _=>none)) RR
noncomputable def ct6 (Kb3 Kb5:ab U El):ab U El:=fun st=>ac X (cdp [1,1,1,1,1,0,1,0,0,1,1,0,0,1,1] bd) (.seq none .d (.seq none .d (.block (.loop nm9 .d)))) st (ah nm5 Kb5) (aq 3 (ah nm5 Kb5) (aq 2 (ah nm3 Kb3) (fun _ _=>none))) RR
noncomputable def ct8 (Kb3 Kb5 Kb6 Kb7:ab U El):ab U El:=fun st=>ac X (cdp [1,1,1,1,1,0,1,0,0,1,1,0,0,1,0,1,0,0,1,1,1] bd) .d st (ah nm7 Kb7) (aq 4 (ah nm6 Kb6) (aq 3 (ah nm5 Kb5) (aq 2 (ah nm3 Kb3) (fun _ _=>none)))) RR
theorem P0 (l n s l2 kk lA pA cv):ac X (cdp [] bd) (.seq none .d (.seq none .d (.seq none .d (.seq (some nm1) (.seq none .d (.block (.loop nm2 .d))) (.seq none .d (.seq (some nm3) (.seq none .d (.block (.loop nm4 (.seq none .d (.seq none .d (.seq (some nm5) (.block (.seq none .d (.seq (some nm6) (.seq none .d (.block (.loop nm7 (.seq none .d (.seq none .d (.seq (some nm8) (.block (.seq none .d (.seq none .d (.seq none .d (.cond (.region [(13,14)]) .d))))) .d)))))) (.seq none .d (.seq none .d (.block (.loop nm9 .d))))))) .d)))))) .d)))))) (fr0 l n s l2 kk lA pA cv) RR (fun _ _=>none) RR=sh0 l n s l2 kk lA pA cv (fun y0 y1 y2 y3 y4 y5 y6 y7 y8 y9 y10=>(hid (it2 (hid ct1) 100000)) (fr2 y0 y1 y2 y3 y4 y5 y6 y7 y8 y9 y10)):=by kernel_rfl
theorem P1 (m9 mA gA iA dA bA aA eA cA):ct1 (fr1 m9 mA gA iA dA bA aA eA cA)=sh1 m9 mA gA iA dA bA aA eA cA (fun y0 y1 y2 y3 y4 y5 y6 y7 y8 y9 y10=>(hid (it4 (hid ct3) 100000)) (fr4 y0 y1 y2 y3 y4 y5 y6 y7 y8 y9 y10)):=by kernel_rfl
theorem P2 (m9 mA bB vA gA iA dA bA aA eA cA) (Kb1 Kb2:ab U El):ac X (cdp [1,1,1,0,1,0,0] bd) .d (fr2 m9 mA bB vA gA iA dA bA aA eA cA) (ah nm2 Kb2) (aq 0 (ah nm1 Kb1) (fun _ _=>none)) RR=sh2 m9 mA bB vA gA iA dA bA aA eA cA (fun y0 y1 y2 y3 y4 y5 y6 y7 y8=>Kb1 (fr1 y0 y1 y2 y3 y4 y5 y6 y7 y8)) (fun y0 y1 y2 y3 y4 y5 y6 y7 y8 y9 y10=>Kb2 (fr2 y0 y1 y2 y3 y4 y5 y6 y7 y8 y9 y10)):=by kernel_rfl
theorem P3 (dA bA aA eA cA):ct3 (fr3 dA bA aA eA cA)=sh3 dA bA aA eA cA:=by kernel_rfl
theorem P4 (m9 kA nA oA gA iA dA bA aA eA cA) (Kb3 Kb4:ab U El):ac X (cdp [1,1,1,1,1,0,1,0,0] bd) (.seq none .d (.seq none .d (.seq (some nm5) (.block (.seq none .d (.seq (some nm6) (.seq none .d (.block (.loop nm7 (.seq none .d (.seq none .d (.seq (some nm8) (.block (.seq none .d (.seq none .d (.seq none .d (.cond (.region [(13,14)]) .d))))) .d)))))) (.seq none .d (.seq none .d (.block (.loop nm9 .d))))))) .d))) (fr4 m9 kA nA oA gA iA dA bA aA eA cA) (ah nm4 Kb4) (aq 2 (ah nm3 Kb3) (fun _ _=>none)) RR=sh4 m9 kA nA oA gA iA dA bA aA eA cA (fun y0 y1 y2 y3 y4=>Kb3 (fr3 y0 y1 y2 y3 y4)) (fun y0 y1 y2 y3 y4 y5 y6 y7 y8 y9 y10 y11 y12 y13 y14=>(hid (it7 Kb3 (hid (ct5 Kb3 Kb4)) (hid (ct6 Kb3 (hid (ct5 Kb3 Kb4)))) 100000)) (fr7 y0 y1 y2 y3 y4 y5 y6 y7 y8 y9 y10 y11 y12 y13 y14)):=by kernel_rfl
theorem P5 (m9 kA nA oA gA iA dA bA aA eA cA) (Kb3 Kb4:ab U El):ct5 Kb3 Kb4 (fr5 m9 kA nA oA gA iA dA bA aA eA cA)=sh5 m9 kA nA oA gA iA dA bA aA eA cA (fun y0 y1 y2 y3 y4 y5 y6 y7 y8 y9 y10=>Kb4 (fr4 y0 y1 y2 y3 y4 y5 y6 y7 y8 y9 y10)):=by kernel_rfl
theorem P6 (m9 kA fA nA oA gA iA dA bA aA eA cA) (Kb3 Kb5:ab U El):ct6 Kb3 Kb5 (fr6 m9 kA fA nA oA gA iA dA bA aA eA cA)=sh6 m9 kA fA nA oA gA iA dA bA aA eA cA (fun y0 y1 y2 y3 y4 y5 y6 y7 y8 y9 y10 y11=>(hid (it9 Kb3 Kb5 100000)) (fr9 y0 y1 y2 y3 y4 y5 y6 y7 y8 y9 y10 y11)):=by kernel_rfl
theorem P7 (m9 kA fA nA oA tA uA rA gA iA dA bA aA eA cA) (Kb3 Kb5 Kb6 Kb7:ab U El):ac X (cdp [1,1,1,1,1,0,1,0,0,1,1,0,0,1,0,1,0,0] bd) (.seq none .d (.seq none .d (.seq (some nm8) (.block (.seq none .d (.seq none .d (.seq none .d (.cond (.region [(13,14)]) .d))))) .d))) (fr7 m9 kA fA nA oA tA uA rA gA iA dA bA aA eA cA) (ah nm7 Kb7) (aq 4 (ah nm6 Kb6) (aq 3 (ah nm5 Kb5) (aq 2 (ah nm3 Kb3) (fun _ _=>none)))) RR=sh7 m9 kA fA nA oA tA uA rA gA iA dA bA aA eA cA (fun y0 y1 y2 y3 y4 y5 y6 y7 y8 y9 y10 y11=>Kb6 (fr6 y0 y1 y2 y3 y4 y5 y6 y7 y8 y9 y10 y11)) (fun y0 y1 y2 y3 y4 y5 y6 y7 y8 y9 y10 y11 y12 y13 y14=>(hid (ct8 Kb3 Kb5 Kb6 Kb7)) (fr8 y0 y1 y2 y3 y4 y5 y6 y7 y8 y9 y10 y11 y12 y13 y14)):=by kernel_rfl
theorem P8 (m9 kA fA nA oA tA uA rA gA iA dA bA aA eA cA) (Kb3 Kb5 Kb6 Kb7:ab U El):ct8 Kb3 Kb5 Kb6 Kb7 (fr8 m9 kA fA nA oA tA uA rA gA iA dA bA aA eA cA)=sh8 m9 kA fA nA oA tA uA rA gA iA dA bA aA eA cA (fun y0 y1 y2 y3 y4 y5 y6 y7 y8 y9 y10 y11 y12 y13 y14=>Kb7 (fr7 y0 y1 y2 y3 y4 y5 y6 y7 y8 y9 y10 y11 y12 y13 y14)):=by kernel_rfl
theorem P9 (m9 kA sA nA oA gA iA dA bA aA eA cA) (Kb3 Kb5 Kb9:ab U El):ac X (cdp [1,1,1,1,1,0,1,0,0,1,1,0,0,1,1,1,1,0,0] bd) .d (fr9 m9 kA sA nA oA gA iA dA bA aA eA cA) (ah nm9 Kb9) (aq 6 (ah nm5 Kb5) (aq 3 (ah nm5 Kb5) (aq 2 (ah nm3 Kb3) (fun _ _=>none)))) RR=sh9 m9 kA sA nA oA gA iA dA bA aA eA cA (fun y0 y1 y2 y3 y4 y5 y6 y7 y8 y9 y10=>Kb5 (fr5 y0 y1 y2 y3 y4 y5 y6 y7 y8 y9 y10)) (fun y0 y1 y2 y3 y4 y5 y6 y7 y8 y9 y10 y11=>Kb9 (fr9 y0 y1 y2 y3 y4 y5 y6 y7 y8 y9 y10 y11)):=by kernel_rfl
noncomputable def f3 (dA:List Rule) (bA:Int) (aA:List Node) (eA:List Lnk) (cA:Bool):R:=sh3 dA bA aA eA cA
noncomputable def f5 (k4:Y4) (m9:List (List Int)) (kA:List Int) (nA:Int) (oA:Int) (gA:List Node) (iA:List Lnk) (dA:List Rule) (bA:Int) (aA:List Node) (eA:List Lnk) (cA:Bool):R:=sh5 m9 kA nA oA gA iA dA bA aA eA cA k4
noncomputable def f9 (k4:Y4):Nat→Y9
  | 0=>fun _ _ _ _ _ _ _ _ _ _ _ _=>none
  | n+1=>fun m9 kA sA nA oA gA iA dA bA aA eA cA=>sh9 m9 kA sA nA oA gA iA dA bA aA eA cA (f5 k4) (f9 k4 n)
noncomputable def f6 (k4:Y4) (m9:List (List Int)) (kA:List Int) (fA:List Int) (nA:Int) (oA:Int) (gA:List Node) (iA:List Lnk) (dA:List Rule) (bA:Int) (aA:List Node) (eA:List Lnk) (cA:Bool):R:=sh6 m9 kA fA nA oA gA iA dA bA aA eA cA (f9 k4 100000)
noncomputable def f8 (k4:Y4) (k7:Y7) (m9:List (List Int)) (kA:List Int) (fA:List Int) (nA:Int) (oA:Int) (tA:List Node) (uA:Int) (rA:Int) (gA:List Node) (iA:List Lnk) (dA:List Rule) (bA:Int) (aA:List Node) (eA:List Lnk) (cA:Bool):R:=sh8 m9 kA fA nA oA tA uA rA gA iA dA bA aA eA cA k7
noncomputable def f7 (k4:Y4):Nat→Y7
  | 0=>fun _ _ _ _ _ _ _ _ _ _ _ _ _ _ _=>none
  | n+1=>fun m9 kA fA nA oA tA uA rA gA iA dA bA aA eA cA=>sh7 m9 kA fA nA oA tA uA rA gA iA dA bA aA eA cA (f6 k4) (f8 k4 (f7 k4 n))
noncomputable def f4:Nat→Y4
  | 0=>fun _ _ _ _ _ _ _ _ _ _ _=>none
  | n+1=>fun m9 kA nA oA gA iA dA bA aA eA cA=>sh4 m9 kA nA oA gA iA dA bA aA eA cA f3 (f7 (f4 n) 100000)
noncomputable def f1 (m9:List (List Int)) (mA:Int) (gA:List Node) (iA:List Lnk) (dA:List Rule) (bA:Int) (aA:List Node) (eA:List Lnk) (cA:Bool):R:=sh1 m9 mA gA iA dA bA aA eA cA (f4 100000)
noncomputable def f2:Nat→Y2
  | 0=>fun _ _ _ _ _ _ _ _ _ _ _=>none
  | n+1=>fun m9 mA bB vA gA iA dA bA aA eA cA=>sh2 m9 mA bB vA gA iA dA bA aA eA cA f1 (f2 n)
noncomputable def f0 (l:List Rule) (n:Net) (s:List UInt8) (l2:List Rule) (kk:Int) (lA:List Node) (pA:List Lnk) (cv:Bool):R:=sh0 l n s l2 kk lA pA cv (f2 100000)
theorem T3 (dA bA aA eA cA):(hid ct3) (fr3 dA bA aA eA cA)=f3 dA bA aA eA cA:=by
  refine (congrFun (ai _) _).trans <| (P3 dA bA aA eA cA).trans ?_
  show _=sh3 dA bA aA eA cA
  rfl
theorem T5 (KL4:ab U El) (k4:Y4) (h4:∀ m9 kA nA oA gA iA dA bA aA eA cA,KL4 (fr4 m9 kA nA oA gA iA dA bA aA eA cA)=k4 m9 kA nA oA gA iA dA bA aA eA cA) (m9 kA nA oA gA iA dA bA aA eA cA):(hid (ct5 (hid ct3) KL4)) (fr5 m9 kA nA oA gA iA dA bA aA eA cA)=f5 k4 m9 kA nA oA gA iA dA bA aA eA cA:=by
  refine (congrFun (ai _) _).trans <| (P5 m9 kA nA oA gA iA dA bA aA eA cA (hid ct3) KL4).trans ?_
  show _=sh5 m9 kA nA oA gA iA dA bA aA eA cA k4
  simp only [h4]
theorem T9 (KL4:ab U El) (k4:Y4) (h4:∀ m9 kA nA oA gA iA dA bA aA eA cA,KL4 (fr4 m9 kA nA oA gA iA dA bA aA eA cA)=k4 m9 kA nA oA gA iA dA bA aA eA cA):∀ (n:Nat),∀ m9 kA sA nA oA gA iA dA bA aA eA cA,it9 (hid ct3) (hid (ct5 (hid ct3) KL4)) n (fr9 m9 kA sA nA oA gA iA dA bA aA eA cA)=f9 k4 n m9 kA sA nA oA gA iA dA bA aA eA cA:=by
  intro n
  induction n with
  | zero=>intros; rfl
  | succ n ih =>
    intro m9 kA sA nA oA gA iA dA bA aA eA cA
    refine (P9 m9 kA sA nA oA gA iA dA bA aA eA cA (hid ct3) (hid (ct5 (hid ct3) KL4)) (it9 (hid ct3) (hid (ct5 (hid ct3) KL4)) n)).trans ?_
    show _=sh9 m9 kA sA nA oA gA iA dA bA aA eA cA (f5 k4) (f9 k4 n)
    simp only [T5 KL4 k4 h4,ih]
theorem H9 (KL4:ab U El) (k4:Y4) (h4:∀ m9 kA nA oA gA iA dA bA aA eA cA,KL4 (fr4 m9 kA nA oA gA iA dA bA aA eA cA)=k4 m9 kA nA oA gA iA dA bA aA eA cA) (m9 kA sA nA oA gA iA dA bA aA eA cA):hid (it9 (hid ct3) (hid (ct5 (hid ct3) KL4)) 100000) (fr9 m9 kA sA nA oA gA iA dA bA aA eA cA)=f9 k4 100000 m9 kA sA nA oA gA iA dA bA aA eA cA:=(congrFun (ai _) _).trans (T9 KL4 k4 h4 100000 m9 kA sA nA oA gA iA dA bA aA eA cA)
theorem T6 (KL4:ab U El) (k4:Y4) (h4:∀ m9 kA nA oA gA iA dA bA aA eA cA,KL4 (fr4 m9 kA nA oA gA iA dA bA aA eA cA)=k4 m9 kA nA oA gA iA dA bA aA eA cA) (m9 kA fA nA oA gA iA dA bA aA eA cA):(hid (ct6 (hid ct3) (hid (ct5 (hid ct3) KL4)))) (fr6 m9 kA fA nA oA gA iA dA bA aA eA cA)=f6 k4 m9 kA fA nA oA gA iA dA bA aA eA cA:=by
  refine (congrFun (ai _) _).trans <| (P6 m9 kA fA nA oA gA iA dA bA aA eA cA (hid ct3) (hid (ct5 (hid ct3) KL4))).trans ?_
  show _=sh6 m9 kA fA nA oA gA iA dA bA aA eA cA (f9 k4 100000)
  simp only [H9 KL4 k4 h4]
theorem T8 (KL4:ab U El) (KL7:ab U El) (k4:Y4) (k7:Y7) (h4:∀ m9 kA nA oA gA iA dA bA aA eA cA,KL4 (fr4 m9 kA nA oA gA iA dA bA aA eA cA)=k4 m9 kA nA oA gA iA dA bA aA eA cA) (h7:∀ m9 kA fA nA oA tA uA rA gA iA dA bA aA eA cA,KL7 (fr7 m9 kA fA nA oA tA uA rA gA iA dA bA aA eA cA)=k7 m9 kA fA nA oA tA uA rA gA iA dA bA aA eA cA) (m9 kA fA nA oA tA uA rA gA iA dA bA aA eA cA):(hid (ct8 (hid ct3) (hid (ct5 (hid ct3) KL4)) (hid (ct6 (hid ct3) (hid (ct5 (hid ct3) KL4)))) KL7)) (fr8 m9 kA fA nA oA tA uA rA gA iA dA bA aA eA cA)=f8 k4 k7 m9 kA fA nA oA tA uA rA gA iA dA bA aA eA cA:=by
  refine (congrFun (ai _) _).trans <| (P8 m9 kA fA nA oA tA uA rA gA iA dA bA aA eA cA (hid ct3) (hid (ct5 (hid ct3) KL4)) (hid (ct6 (hid ct3) (hid (ct5 (hid ct3) KL4)))) KL7).trans ?_
  show _=sh8 m9 kA fA nA oA tA uA rA gA iA dA bA aA eA cA k7
  simp only [h7]
theorem T7 (KL4:ab U El) (k4:Y4) (h4:∀ m9 kA nA oA gA iA dA bA aA eA cA,KL4 (fr4 m9 kA nA oA gA iA dA bA aA eA cA)=k4 m9 kA nA oA gA iA dA bA aA eA cA):∀ (n:Nat),∀ m9 kA fA nA oA tA uA rA gA iA dA bA aA eA cA,it7 (hid ct3) (hid (ct5 (hid ct3) KL4)) (hid (ct6 (hid ct3) (hid (ct5 (hid ct3) KL4)))) n (fr7 m9 kA fA nA oA tA uA rA gA iA dA bA aA eA cA)=f7 k4 n m9 kA fA nA oA tA uA rA gA iA dA bA aA eA cA:=by
  intro n
  induction n with
  | zero=>intros; rfl
  | succ n ih =>
    intro m9 kA fA nA oA tA uA rA gA iA dA bA aA eA cA
    refine (P7 m9 kA fA nA oA tA uA rA gA iA dA bA aA eA cA (hid ct3) (hid (ct5 (hid ct3) KL4)) (hid (ct6 (hid ct3) (hid (ct5 (hid ct3) KL4)))) (it7 (hid ct3) (hid (ct5 (hid ct3) KL4)) (hid (ct6 (hid ct3) (hid (ct5 (hid ct3) KL4)))) n)).trans ?_
    show _=sh7 m9 kA fA nA oA tA uA rA gA iA dA bA aA eA cA (f6 k4) (f8 k4 (f7 k4 n))
    simp only [T6 KL4 k4 h4,T8 KL4 (it7 (hid ct3) (hid (ct5 (hid ct3) KL4)) (hid (ct6 (hid ct3) (hid (ct5 (hid ct3) KL4)))) n) k4 (f7 k4 n) h4 ih]
theorem H7 (KL4:ab U El) (k4:Y4) (h4:∀ m9 kA nA oA gA iA dA bA aA eA cA,KL4 (fr4 m9 kA nA oA gA iA dA bA aA eA cA)=k4 m9 kA nA oA gA iA dA bA aA eA cA) (m9 kA fA nA oA tA uA rA gA iA dA bA aA eA cA):hid (it7 (hid ct3) (hid (ct5 (hid ct3) KL4)) (hid (ct6 (hid ct3) (hid (ct5 (hid ct3) KL4)))) 100000) (fr7 m9 kA fA nA oA tA uA rA gA iA dA bA aA eA cA)=f7 k4 100000 m9 kA fA nA oA tA uA rA gA iA dA bA aA eA cA:=(congrFun (ai _) _).trans (T7 KL4 k4 h4 100000 m9 kA fA nA oA tA uA rA gA iA dA bA aA eA cA)
theorem T4:∀ (n:Nat),∀ m9 kA nA oA gA iA dA bA aA eA cA,it4 (hid ct3) n (fr4 m9 kA nA oA gA iA dA bA aA eA cA)=f4 n m9 kA nA oA gA iA dA bA aA eA cA:=by
  intro n
  induction n with
  | zero=>intros; rfl
  | succ n ih =>
    intro m9 kA nA oA gA iA dA bA aA eA cA
    refine (P4 m9 kA nA oA gA iA dA bA aA eA cA (hid ct3) (it4 (hid ct3) n)).trans ?_
    show _=sh4 m9 kA nA oA gA iA dA bA aA eA cA f3 (f7 (f4 n) 100000)
    simp only [T3,H7 (it4 (hid ct3) n) (f4 n) ih]
theorem H4 (m9 kA nA oA gA iA dA bA aA eA cA):hid (it4 (hid ct3) 100000) (fr4 m9 kA nA oA gA iA dA bA aA eA cA)=f4 100000 m9 kA nA oA gA iA dA bA aA eA cA:=(congrFun (ai _) _).trans (T4 100000 m9 kA nA oA gA iA dA bA aA eA cA)
theorem T1 (m9 mA gA iA dA bA aA eA cA):(hid ct1) (fr1 m9 mA gA iA dA bA aA eA cA)=f1 m9 mA gA iA dA bA aA eA cA:=by
  refine (congrFun (ai _) _).trans <| (P1 m9 mA gA iA dA bA aA eA cA).trans ?_
  show _=sh1 m9 mA gA iA dA bA aA eA cA (f4 100000)
  simp only [H4]
theorem T2:∀ (n:Nat),∀ m9 mA bB vA gA iA dA bA aA eA cA,it2 (hid ct1) n (fr2 m9 mA bB vA gA iA dA bA aA eA cA)=f2 n m9 mA bB vA gA iA dA bA aA eA cA:=by
  intro n
  induction n with
  | zero=>intros; rfl
  | succ n ih =>
    intro m9 mA bB vA gA iA dA bA aA eA cA
    refine (P2 m9 mA bB vA gA iA dA bA aA eA cA (hid ct1) (it2 (hid ct1) n)).trans ?_
    show _=sh2 m9 mA bB vA gA iA dA bA aA eA cA f1 (f2 n)
    simp only [T1,ih]
theorem H2 (m9 mA bB vA gA iA dA bA aA eA cA):hid (it2 (hid ct1) 100000) (fr2 m9 mA bB vA gA iA dA bA aA eA cA)=f2 100000 m9 mA bB vA gA iA dA bA aA eA cA:=(congrFun (ai _) _).trans (T2 100000 m9 mA bB vA gA iA dA bA aA eA cA)
theorem T0 (l n s l2 kk lA pA cv):ac X bd (.seq none .d (.seq none .d (.seq none .d (.seq (some nm1) (.seq none .d (.block (.loop nm2 .d))) (.seq none .d (.seq (some nm3) (.seq none .d (.block (.loop nm4 (.seq none .d (.seq none .d (.seq (some nm5) (.block (.seq none .d (.seq (some nm6) (.seq none .d (.block (.loop nm7 (.seq none .d (.seq none .d (.seq (some nm8) (.block (.seq none .d (.seq none .d (.seq none .d (.cond (.region [(13,14)]) .d))))) .d)))))) (.seq none .d (.seq none .d (.block (.loop nm9 .d))))))) .d)))))) .d)))))) (fr0 l n s l2 kk lA pA cv) RR (fun _ _=>none) RR=f0 l n s l2 kk lA pA cv:=by
  refine (P0 l n s l2 kk lA pA cv).trans ?_
  show _=sh0 l n s l2 kk lA pA cv (f2 100000)
  simp only [H2]
theorem run (l n s l2 kk lA pA cv):pC X bd (.seq none .d (.seq none .d (.seq none .d (.seq (some nm1) (.seq none .d (.block (.loop nm2 .d))) (.seq none .d (.seq (some nm3) (.seq none .d (.block (.loop nm4 (.seq none .d (.seq none .d (.seq (some nm5) (.block (.seq none .d (.seq (some nm6) (.seq none .d (.block (.loop nm7 (.seq none .d (.seq none .d (.seq (some nm8) (.block (.seq none .d (.seq none .d (.seq none .d (.cond (.region [(13,14)]) .d))))) .d)))))) (.seq none .d (.seq none .d (.block (.loop nm9 .d))))))) .d)))))) .d)))))) nmR [8] [(1000000000,(.box 1000000000 [(.lst .rule l2)])),(1000000001,(.box 1000000001 [(.int .i64 kk)])),(1000000002,(.box 1000000002 [(.lst .node lA),(.lst .link pA)])),(1000000003,(.box 1000000003 [(.bool cv)]))] [(.lst .rule l),(.agg [(.lst .node n.nds),(.lst .link n.lks)]),(.str s),(.fn 75 [] [(.ptr 1000000000 0),(.ptr 1000000001 0),(.ptr 1000000002 0),(.ptr 1000000003 0)])]=f0 l n s l2 kk lA pA cv:=T0 l n s l2 kk lA pA cv
noncomputable def ret (few:Bool) (l2:List Rule) (q:Int) (lA:List Node) (pA:List Lnk) (cm:Bool):R:=some (.bool few,[(1000000000,.box 1000000000 [.lst .rule l2]),(1000000001,.box 1000000001 [.int .i64 q]),(1000000002,.box 1000000002 [.lst .node lA,.lst .link pA]),(1000000003,.box 1000000003 [.bool cm])])
section
variable (l2:List Rule) (q:Int) (lA:List Node) (pA:List Lnk) (nds:List Node) (lks:List Lnk) (m ms:List (List Int)) (hmk:Mk nds m ms) (hn:nds.length≤90000)
include hmk hn
abbrev K4:=List (List Int)→List Int→Int→Int→List Node→List Lnk→List Rule→Int→List Node→List Lnk→Bool→R
theorem step9 (k4 : K4) (nA oA : Int) (cm : Bool) : ∀ (n i : Nat) (a : List Nat), i < n → i ≤ a.length → a.length = nds.length → (∀ (j : Nat) (h : j < a.length), a[j] ≤ 100000) →
    f9 k4 n m (a.map Int.ofNat) ((i:Int) - 1) nA oA nds lks l2 q lA pA cm=f5 k4 m ((ki (ms.map (·.length)) i a).map Int.ofNat) nA oA nds lks l2 q lA pA cm:=by
  intro n
  induction n with
  | zero=>intro i a h1; omega
  | succ n ih =>
    intro i a h1 h2 h3 h4
    show sh9 m (a.map Int.ofNat) ((i:Int) - 1) nA oA nds lks l2 q lA pA cm (f5 k4) (f9 k4 n)=_
    unfold sh9
    cases i with
    | zero=>rw [qT (by simp)]; rfl
    | succ i =>
      have e0:((i+1:Nat):Int) - 1=(i:Int):=by omega
      rw [e0]
      have hi:i < a.length:=h2
      have hm1:i < m.length:=by rw [hmk.h1]; omega
      have hm2:i < ms.length:=by rw [hmk.h2]; omega
      have hal:i < (a.map Int.ofNat).length:=by simpa using hi
      have hai:=h4 i hi
      have eg:(a.map Int.ofNat).getD i aL=(a[i]:Int):=by rw [ar hal]; simp
      have ew:IntKind.wrap .i64 ((a[i]:Int)+1)=((a[i]+1:Nat):Int):=bD _ (by omega)
      have es:(a.map Int.ofNat).set i ((a[i]+1:Nat):Int)=(a.set i (a[i]+1)).map Int.ofNat:=by rw [List.map_set]; rfl
      have hal2:i < ((a.set i (a[i]+1)).map Int.ofNat).length:=by simpa using hi
      have eg2:((a.set i (a[i]+1)).map Int.ofNat).getD i aL=((a[i]+1:Nat):Int):=by rw [ar hal2]; simp
      have es2:((a.set i (a[i]+1)).map Int.ofNat).set i (0:Int)=(a.set i 0).map Int.ofNat:=by rw [show (0:Int)=Int.ofNat 0 from rfl,← List.map_set,List.set_set]
      rw [b7 (by omega),ak,eg,ew,es,eg2,es2,aW hal,aW hal2,aW hm1,df hal,df hal2,df hm1,ar hm1]
      have ed:((i:Int) - 1)=IntKind.wrap .i64 ((i:Int) - 1):=(eF (by omega) (by omega)).symm
      rw [← ed]
      have hrec:=ih i (a.set i 0) (by omega) (by simp; omega) (by simpa using h3) (fun j h=>by
        simp only [List.length_set] at h
        rw [List.getElem_set]
        split
        · omega
        · exact h4 j h)
      rw [hrec]
      simp only [ki]
      have e1:a.getD i 0=a[i]:=ar hi 0
      have e2:(ms.map (·.length)).getD i 0=ms[i].length:=by rw [ar (by simpa using hm2)]; simp
      rw [e1,e2]
      have et:ilt ((a[i]+1:Nat):Int) (Int.ofNat m[i].length)=nlt (a[i]+1) ms[i].length:=by
        rcases hmk.h3 i hm1 hm2 (by omega) with ⟨p1,p2⟩ | ⟨p1,p2⟩
        · rw [p1,p2,aR (by simp; omega),oi (by simp)]
        · rw [← p2]
          by_cases e:a[i]+1 < m[i].length
          · rw [aX (by simp; omega),df e]
          · rw [aR (by simp; omega),oi e]
      rw [et]
      cases nlt (a[i]+1) ms[i].length<;>rfl
theorem step7 (k4 : K4) (nA oA : Int) (cm : Bool) (k : Nat) : ∀ (n i : Nat) (lv : List Int), nds.length < n + i → i ≤ nds.length → lv.length = nds.length → lv.take i = (a7 ms k).take i →
    f7 k4 n m (cC ms k) lv nA oA nds (Int.ofNat nds.length) (i:Int) nds lks l2 q lA pA cm=f6 k4 m (cC ms k) (a7 ms k) nA oA nds lks l2 q lA pA cm:=by
  intro n
  have hT:(a7 ms k).length=nds.length:=by rw [dP,hmk.h2]
  induction n with
  | zero=>intro i lv h1 h2; omega
  | succ n ih =>
    intro i lv h1 h2 h3 h4
    show sh7 m (cC ms k) lv nA oA nds (Int.ofNat nds.length) (i:Int) nds lks l2 q lA pA cm (f6 k4) (f8 k4 (f7 k4 n))=_
    unfold sh7
    by_cases hi:i < nds.length
    · have hm1 : i < m.length := by rw [hmk.h1]; omega
      have hm2:i < ms.length:=by rw [hmk.h2]; omega
      have hd:i < (dw ms k).length:=by rw [c9]; exact hm2
      have hd':i < (cC ms k).length:=by simpa [cC] using hd
      have hlv:i < lv.length:=by omega
      have hT':i < (a7 ms k).length:=by omega
      have hdl:=jo (fun j h=>(hmk.len j (by rw [hmk.h1,← hmk.h2]; exact h) h).1) k i hd hm2
      have eT:(a7 ms k)[i]=ms[i].getD (dw ms k)[i] 0:=by
        have:(a7 ms k)[i]? = some (ms[i].getD (dw ms k)[i] 0):=by
          rw [kh,List.getElem?_zipWith]
          rw [List.getElem?_eq_getElem hm2,show (eV (ms.map (·.length)).reverse k).reverse=dw ms k from rfl,List.getElem?_eq_getElem hd]
        rw [List.getElem?_eq_getElem hT'] at this
        exact Option.some.inj this
      have edg:(cC ms k).getD i aL=((dw ms k)[i]:Int):=by rw [ar hd']; simp [cC]
      have hk:∀ lv':List Int,lv'.length=nds.length→lv'.take (i+1)=(a7 ms k).take (i+1)→f8 k4 (f7 k4 n) m (cC ms k) lv' nA oA nds (Int.ofNat nds.length) (i:Int) nds lks l2 q lA pA cm=f6 k4 m (cC ms k) (a7 ms k) nA oA nds lks l2 q lA pA cm:=fun lv' g1 g2=>by
        show f7 k4 n m (cC ms k) lv' nA oA nds (Int.ofNat nds.length) (IntKind.wrap .i64 ((i:Int)+1)) nds lks l2 q lA pA cm=_
        rw [bD i (by omega)]
        exact ih (i+1) lv' (by omega) hi g1 g2
      have bZ:∀ (lv':List Int) (v:Int),lv'.length=nds.length→lv'.take i=(a7 ms k).take i→v=(a7 ms k)[i]→(lv'.set i v).take (i+1)=(a7 ms k).take (i+1):=fun lv' v g1 g2 g3=>by
        rw [List.take_add_one,List.take_set_of_le (Nat.le_refl i),g2,List.getElem?_set_self (by omega),dN hT',g3]
        rfl
      rw [aX (by simp; omega),aW hi,aW hlv,aW hm1,aW hd',ak,df hlv,df hm1,df hd',ar hm1,ar hi,edg,ak]
      rcases hmk.h3 i hm1 hm2 hi with ⟨p1,p2⟩ | ⟨p1,p2⟩
      · rw [p1, aR (by simp)]
        simp only [bG,cO,bL]
        refine hk _ (by simpa using h3) (bZ lv _ h3 h4 ?_)
        rw [eT,p2]
        rw [p2] at hdl
        have:(dw ms k)[i]=0:=by simpa using hdl
        rw [this]; rfl
      · have hpos : 0 < m[i].length := List.length_pos_iff.2 p1
        have hsl:i < (lv.set i nds[i].ni).length:=by simpa using hlv
        rw [aX (by simp; omega),aW (show (dw ms k)[i] < m[i].length by rw [p2]; exact hdl),aW hsl,df hsl]
        simp only [bG,cO,bL,Bool.and_true]
        refine hk _ (by simpa using h3) (bZ _ _ (by simpa using h3) (by rw [List.take_set_of_le (Nat.le_refl i)]; exact h4) ?_)
        rw [eT,p2]
        rfl
    · have : i = nds.length := by omega
      subst this
      rw [aR (by simp)]
      rw [List.take_of_length_le (by omega),List.take_of_length_le (by omega)] at h4
      rw [h4]; rfl
end
noncomputable def good (l2:List Rule) (q:Int) (lA:List Node) (ms:List (List Int)) (k:Nat):Bool:=(bif dC l2 q lA (a7 ms k) then ia l2 q lA (a7 ms k) else true)
noncomputable def resO (l2:List Rule) (q:Int) (lA:List Node) (pA:List Lnk) (ms:List (List Int)):Option Nat→R
  | none=>ret true l2 q lA pA true
  | some k=>ret true l2 q lA pA false
theorem loop4 (l2 : List Rule) (q : Int) (lA : List Node) (pA : List Lnk) (nds : List Node) (lks : List Lnk) (m ms : List (List Int)) (hmk : Mk nds m ms) (hn : nds.length ≤ 90000) (count : Nat) (hc : count ≤ 10000) (hlev : ∀ v : List Int, v.length = nds.length → (dt l2 q && (nle (List.length l2) 90000 && List.all l2 (bl lA v))) = true) : ∀ (n k : Nat), count < n + k → k ≤ count →
    f4 n m (cC ms k) (count:Int) (k:Int) nds lks l2 q lA pA true=resO l2 q lA pA ms (dJ (fun k => !(good l2 q lA ms k)) (count - k) k):=by
  intro n
  induction n with
  | zero=>intro k h1 h2; omega
  | succ n ih =>
    intro k h1 h2
    show sh4 m (cC ms k) (count:Int) (k:Int) nds lks l2 q lA pA true f3 (f7 (f4 n) 100000)=_
    unfold sh4
    by_cases hk:k < count
    · have hml : m.length = nds.length := hmk.h1
      have e7:=step7 l2 q lA pA nds lks m ms hmk hn (f4 n) (count:Int) (k:Int) true k 100000 0 (List.replicate (Int.toNat (Int.ofNat m.length)) aL) (by omega) (by omega) (by rw [cR]; simp; omega) rfl
      rw [aX (by omega),b7 (show (0:Int)≤Int.ofNat m.length by simp),b7 (Int.le_refl (Int.ofNat m.length)),b7 (show Int.ofNat m.length * 8≤140737488355328 by simp; omega)]
      rw [show ((0:Int))=((0:Nat):Int) from rfl,e7]
      show sh6 m (cC ms k) (a7 ms k) (count:Int) (k:Int) nds lks l2 q lA pA true (f9 (f4 n) 100000)=_
      unfold sh6
      have hT:(a7 ms k).length=nds.length:=by rw [dP,hmk.h2]
      rw [hlev _ hT]
      obtain ⟨d,hd⟩:∃ d,count - k=d+1:=⟨count - k - 1,by omega⟩
      rw [hd]
      unfold dJ
      have hdl:(cC ms k).length=nds.length:=by simp [cC,c9,hmk.h2]
      have ew:IntKind.wrap .i64 (Int.ofNat (cC ms k).length - 1)=((nds.length:Nat):Int) - 1:=by rw [hdl]; exact eF (by simp; omega) (by simp; omega)
      rw [ew]
      have e9:∀ cm:Bool,cm=true→f9 (f4 n) 100000 m (cC ms k) (((nds.length:Nat):Int) - 1) (count:Int) (k:Int) nds lks l2 q lA pA cm=resO l2 q lA pA ms (dJ (fun k => !(good l2 q lA ms k)) d (k+1)):=fun cm hcm=>by
        subst hcm
        have hL:∀ x∈ms.map (·.length),0 < x:=fun x hx=>by
          obtain ⟨y,hy,rfl⟩:=List.mem_map.1 hx
          obtain ⟨j,hj,rfl⟩:=List.getElem_of_mem hy
          exact (hmk.len j (by rw [hmk.h1,← hmk.h2]; exact hj) hj).1
        have:=step9 l2 q lA pA nds lks m ms hmk hn (f4 n) (count:Int) (k:Int) true 100000 nds.length (dw ms k) (by omega) (by rw [c9,hmk.h2]; exact Nat.le_refl _) (by rw [c9,hmk.h2]) (fun j h=>by
          have hj:j < ms.length:=by rw [c9] at h; exact h
          have a:=jo (fun j h=>(hmk.len j (by rw [hmk.h1,← hmk.h2]; exact h) h).1) k j h hj
          have b:=(hmk.len j (by rw [hmk.h1,← hmk.h2]; exact hj) hj).2.1
          omega)
        refine (show f9 (f4 n) 100000 m (cC ms k) (((nds.length:Nat):Int) - 1) (count:Int) (k:Int) nds lks l2 q lA pA true=_ from this).trans ?_
        have ei:ki (ms.map (·.length)) nds.length (dw ms k)=dw ms (k+1):=by
          have:=m8 (ms.map (·.length)) hL k
          rw [List.length_map,hmk.h2] at this
          exact this
        rw [ei]
        show f4 n m (cC ms (k+1)) (count:Int) (IntKind.wrap .i64 ((k:Int)+1)) nds lks l2 q lA pA true=_
        rw [bD k (by omega),ih (k+1) (by omega) hk]
        congr 2
        omega
      cases hs:(bif dC l2 q lA (a7 ms k) then ia l2 q lA (a7 ms k) else true) with
      | false =>
        have hg:good l2 q lA ms k=false:=hs
        rw [hg]; rfl
      | true =>
        have hg:good l2 q lA ms k=true:=hs
        rw [hg]
        exact e9 true rfl
    · have : k = count := by omega
      subst this
      rw [aR (by omega),Nat.sub_self]
      rfl
theorem loop2 (l2 : List Rule) (q : Int) (lA : List Node) (pA : List Lnk) (nds : List Node) (lks : List Lnk) (m ms : List (List Int)) (hmk : Mk nds m ms) (hn : nds.length ≤ 90000) : ∀ (n i : Nat) (c : Nat), nds.length < n + i → i ≤ nds.length → 0 < c → c ≤ 10000 →
    f2 n m (c:Int) (Int.ofNat m.length) (i:Int) nds lks l2 q lA pA true=bif nle (c * cd ((ms.map (·.length)).drop i)) 10000 then f1 m ((c * cd ((ms.map (·.length)).drop i):Nat):Int) nds lks l2 q lA pA true else ret false l2 q lA pA true:=by
  intro n
  induction n with
  | zero=>intro i c h1 h2; omega
  | succ n ih =>
    intro i c h1 h2 h3 h4
    show sh2 m (c:Int) (Int.ofNat m.length) (i:Int) nds lks l2 q lA pA true f1 (f2 n)=_
    unfold sh2
    by_cases hi:i < nds.length
    · have hm1 : i < m.length := by rw [hmk.h1]; omega
      have hm2:i < ms.length:=by rw [hmk.h2]; omega
      obtain ⟨q1,q2,q3⟩:=hmk.len i hm1 hm2
      have hdr:(ms.map (·.length)).drop i=ms[i].length :: (ms.map (·.length)).drop (i+1):=by rw [bc (by simpa using hm2)]; simp
      have hmul:c * ms[i].length≤10000 * 100000:=Nat.mul_le_mul h4 q2
      have ew:IntKind.wrap .i64 ((c:Int) * (ms[i].length:Int))=((c * ms[i].length:Nat):Int):=by
        rw [← Int.natCast_mul]; exact eF (by omega) (by omega)
      rw [aX (by simp; omega),aW hm1,ak,df hm1,ar hm1,q3,ew,hdr]
      simp only [cd,bG,bL]
      rw [← Nat.mul_assoc]
      have hpos:0 < cd ((ms.map (·.length)).drop (i+1)):=lg fun x hx=>by
        obtain ⟨y,hy,rfl⟩:=List.mem_map.1 (List.mem_of_mem_drop hx)
        obtain ⟨j,hj,rfl⟩:=List.getElem_of_mem hy
        exact (hmk.len j (by rw [hmk.h1,← hmk.h2]; exact hj) hj).1
      by_cases hb:c * ms[i].length≤10000
      · rw [aR (by omega)]
        show f2 n m ((c * ms[i].length:Nat):Int) (Int.ofNat m.length) (IntKind.wrap .i64 ((i:Int)+1)) nds lks l2 q lA pA true=_
        rw [bD i (by omega)]
        exact ih (i+1) _ (by omega) hi (Nat.mul_pos h3 q1) hb
      · rw [aX (by omega)]
        have:¬ c * ms[i].length * cd ((ms.map (·.length)).drop (i+1))≤10000:=fun h=>by
          have:=Nat.le_mul_of_pos_right (c * ms[i].length) hpos
          omega
        rw [show nle (c * ms[i].length * cd ((ms.map (·.length)).drop (i+1))) 10000=false from decide_eq_false this]
        rfl
    · have e : i = nds.length := by omega
      subst e
      rw [aR (by simp [hmk.h1]),List.drop_eq_nil_of_le (by simp [hmk.h2])]
      simp only [cd,Nat.mul_one]
      rw [bE h4]
      rfl
theorem f0_eq (l:List Rule) (n:Net) (s:List UInt8) (l2:List Rule) (q:Int) (lA:List Node) (pA:List Lnk) (cm:Bool) (h:(okN n&&(a6 l&&(cm&&(dt l2 q&&dK l n s l2 lA))))=true):f0 l n s l2 q lA pA cm=ret (cN l n s) l2 q lA pA (bif cN l n s then Option.isNone (gN l n s l2 q lA) else cm):=by
  simp only [Bool.and_eq_true] at h
  obtain ⟨hok,hr,hcm,hrg,hco⟩:=h
  have hmk:=se (s:=s) (n:=n) hr
  have hn:=bQ (cr hok)
  show sh0 l n s l2 q lA pA cm (f2 100000)=_
  unfold sh0
  rw [hok,hr,hcm]
  have e2:=loop2 l2 q lA pA n.nds n.lks (bt l n s) (cM l n s) hmk hn 100000 0 1 (by omega) (by omega) (by omega) (by omega)
  rw [List.drop_zero,Nat.one_mul] at e2
  refine (show f2 100000 (bt l n s) ((1:Nat):Int) (Int.ofNat (bt l n s).length) ((0:Nat):Int) n.nds n.lks l2 q lA pA true=_ from e2).trans ?_
  show (bif cN l n s then f1 (bt l n s) ((dg l n s:Nat):Int) n.nds n.lks l2 q lA pA true else ret false l2 q lA pA true)=_
  cases hf:cN l n s with
  | false=>rfl
  | true =>
    have hc:dg l n s≤10000:=bQ hf
    show sh1 (bt l n s) ((dg l n s:Nat):Int) n.nds n.lks l2 q lA pA true (f4 100000)=_
    unfold sh1
    rw [b7 (show (0:Int)≤Int.ofNat (bt l n s).length by simp),b7 (Int.le_refl (Int.ofNat (bt l n s).length)),b7 (show Int.ofNat (bt l n s).length * 8≤140737488355328 by simp [hmk.h1]; omega)]
    have e4:=loop4 l2 q lA pA n.nds n.lks (bt l n s) (cM l n s) hmk hn (dg l n s) hc (fun v hv=>by rw [hrg]; exact la hco hv) 100000 0 (by omega) (by omega)
    rw [li,hmk.h2] at e4
    have er:List.replicate (Int.toNat (Int.ofNat (bt l n s).length)) aL=List.replicate n.nds.length (0:Int):=by rw [cR,hmk.h1]; rfl
    rw [er]
    refine (show f4 100000 (bt l n s) (List.replicate n.nds.length 0) ((dg l n s:Nat):Int) ((0:Nat):Int) n.nds n.lks l2 q lA pA true=_ from e4).trans ?_
    rw [Nat.sub_zero]
    show resO l2 q lA pA (cM l n s) (gN l n s l2 q lA)=_
    cases gN l n s l2 q lA<;>rfl
theorem ok:CtxOk Tryz.prog X:=aI tab (spC marks.spOk spN) dpN
theorem okM:MOk Tryz.prog X:=eD _ (mpC (jm ok cov1.spOk) mpN)
theorem spec (l:List Rule) (n:Net) (s:List UInt8) (l2:List Rule) (kk:Int) (lA:List Node) (pA:List Lnk) (cv:Bool) (h:((okN n&&(a6 l&&(cv&&(dt l2 kk&&dK l n s l2 lA)))))=true):gl Tryz.prog E 71 [(.lst .rule l),(.agg [(.lst .node n.nds),(.lst .link n.lks)]),(.str s),(.fn 75 [] [(.ptr 1000000000 0),(.ptr 1000000001 0),(.ptr 1000000002 0),(.ptr 1000000003 0)])] [(1000000000,(.box 1000000000 [(.lst .rule l2)])),(1000000001,(.box 1000000001 [(.int .i64 kk)])),(1000000002,(.box 1000000002 [(.lst .node lA),(.lst .link pA)])),(1000000003,(.box 1000000003 [(.bool cv)]))] (.bool (cN l n s)) [(1000000000,(.box 1000000000 [(.lst .rule l2)])),(1000000001,(.box 1000000001 [(.int .i64 kk)])),(1000000002,(.box 1000000002 [(.lst .node lA),(.lst .link pA)])),(1000000003,(.box 1000000003 [(.bool (bif cN l n s then Option.isNone (gN l n s l2 kk lA) else cv))]))] :=
  eE ok okM Tryz.func71 (by kernel_rfl) (by kernel_rfl) (by kernel_rfl) (by show 4≤109; decide) ((run l n s l2 kk lA pA cv).trans (f0_eq l n s l2 kk lA pA cv h))
noncomputable def sp:MSp U El:=fun args hs k=>match args,hs with
  | [.lst .rule l,.agg [.lst .node n_nds,.lst .link n_lks],.str s,.fn 75 [] [.ptr q0 0,.ptr q1 0,.ptr q2 0,.ptr q3 0]],[(q4,.box q5 [.lst .rule l2]),(q6,.box q7 [.int .i64 kk]),(q8,.box q9 [.lst .node lA,.lst .link pA]),(q10,.box q11 [.bool cv])]=>chk (Nat.beq q0 1000000000&&(Nat.beq q1 1000000001&&(Nat.beq q2 1000000002&&(Nat.beq q3 1000000003&&(Nat.beq q4 1000000000&&(Nat.beq q5 1000000000&&(Nat.beq q6 1000000001&&(Nat.beq q7 1000000001&&(Nat.beq q8 1000000002&&(Nat.beq q9 1000000002&&(Nat.beq q10 1000000003&&(Nat.beq q11 1000000003&&true)))))))))))) (chk ((okN (⟨n_nds,n_lks⟩:Net)&&(a6 l&&(cv&&(dt l2 kk&&dK l (⟨n_nds,n_lks⟩:Net) s l2 lA))))) (k (.bool (cN l (⟨n_nds,n_lks⟩:Net) s)) [(1000000000,(.box 1000000000 [(.lst .rule l2)])),(1000000001,(.box 1000000001 [(.int .i64 kk)])),(1000000002,(.box 1000000002 [(.lst .node lA),(.lst .link pA)])),(1000000003,(.box 1000000003 [(.bool (bif cN l (⟨n_nds,n_lks⟩:Net) s then Option.isNone (gN l (⟨n_nds,n_lks⟩:Net) s l2 kk lA) else cv))]))]))
  | _,_=>none
theorem spOk:jE Tryz.prog E 71 sp:=⟨Tryz.call71,fun args hs k r h=>by
  unfold sp at h
  split at h
  · obtain ⟨hq, hA⟩ := af h
    clear h
    simp only [Bool.and_eq_true] at hq
    obtain ⟨e0,e1,e2,e3,e4,e5,e6,e7,e8,e9,e10,e11,_⟩:=hq
    cases Nat.eq_of_beq_eq_true e0
    cases Nat.eq_of_beq_eq_true e1
    cases Nat.eq_of_beq_eq_true e2
    cases Nat.eq_of_beq_eq_true e3
    cases Nat.eq_of_beq_eq_true e4
    cases Nat.eq_of_beq_eq_true e5
    cases Nat.eq_of_beq_eq_true e6
    cases Nat.eq_of_beq_eq_true e7
    cases Nat.eq_of_beq_eq_true e8
    cases Nat.eq_of_beq_eq_true e9
    cases Nat.eq_of_beq_eq_true e10
    cases Nat.eq_of_beq_eq_true e11
    obtain ⟨h1,hB⟩:=af hA
    exact ⟨_,_,spec _ ⟨_,_⟩ _ _ _ _ _ _ h1,hB⟩
  · cases h⟩
theorem spDet:∀ args hs,∃ oo:Option (AV U El×aK U El),∀ k,sp args hs k=oo.bind fun p=>k p.1 p.2:=fun args hs=>by
  unfold sp
  split
  · exact cY (cY ⟨some (_,_),fun _=>rfl⟩)
  · exact ⟨none,fun _=>rfl⟩
end cornersV
end Go.Proofs.YthdimnlkcgchoaaGreat

namespace Go.Proofs.YthdimnlkcgchoaaGreat
set_option linter.unusedSectionVars false
set_option linter.unusedSimpArgs false
set_option linter.unusedVariables false
set_option maxRecDepth 100000
theorem rZ {n:Net} {s:List UInt8} (h:gL n s=true) {v:List Int} (hv:v.length=n.nds.length):inb (aN (fun x=>x == s) 0 (n.nds.map Node.nn)) v.length=true:=by
  have h2:=j7 n s
  rw [h] at h2
  have h3:=iw h2
  have h4:=fP (fun x=>x == s) (aU n) 0
  have h5:(aU n).length=n.nds.length:=by simp [aU]
  show inb (aN (fun x=>x == s) 0 (aU n)) v.length=true
  rcases h4 with h4 | ⟨h4,h6⟩
  · omega
  · simp only [inb, ile, ilt, Bool.and_eq_true, decide_eq_true_eq]
    omega
theorem rg {l:List Rule} {n:Net} (hok:okN n=true) (hr:a6 l=true) (hk:ca l n=true) {v:List Int} (hv:v.length=n.nds.length):∀ r∈l,bl n.nds v r=true:=fun r hm=>by
  have h1:=(cK ((bo hr).2 r hm)).1
  have h2:=List.all_eq_true.1 hk r hm
  simp only [d7,Bool.and_eq_true] at h2
  simp only [bl,Bool.and_eq_true]
  refine ⟨bE (by omega),List.all_eq_true.2 fun c hc => ?_⟩
  simp only [bO,jn,Bool.and_eq_true]
  exact ⟨cr hok,rZ (List.all_eq_true.1 h2.2 c hc) hv⟩
theorem kj {l:List Rule} {n:Net} (hok:okN n=true) (hr:a6 l=true) (hk:ca l n=true) (s:List UInt8):dK l n s l n.nds=true:=by
  have:=(bo hr).1
  simp only [dK,Bool.and_eq_true]
  exact ⟨bE (by omega),List.all_eq_true.2 (rg hok hr hk (by simp))⟩
noncomputable def oz (l:List Rule) (n:Net) (s:List UInt8):Bool:=(aV l n == 0)&&(!(ilt (aF n s) 0)&&cN l n s)
noncomputable def nc (l:List Rule) (n:Net) (s:List UInt8):Bool:=oz l n s&&Option.isNone (na l n s l s n.nds)
noncomputable def lp (l:List Rule) (n:Net) (s:List UInt8):List Int:=bif oz l n s then pX l n s l s n.nds else []
noncomputable def nd (l:List Rule) (n:Net) (s:List UInt8):Int:=bif aV l n != 0 then aV l n else bif ilt (aF n s) 0 then 9 else bif cN l n s then 0 else 6
noncomputable def fQ (l:List Rule) (kk:Int):Rule:=List.getD l (Int.toNat kk) az
noncomputable def nf (l:List Rule) (n:Net) (kk:Int):Bool:=(aV l n == 0)&&(dt l kk&&cN l n (fQ l kk).rl)
noncomputable def gh (l:List Rule) (n:Net) (kk:Int):Bool:=nf l n kk&&Option.isNone (gN l n (fQ l kk).rl l kk n.nds)
noncomputable def fR (l:List Rule) (n:Net) (kk:Int):Int:=bif aV l n != 0 then aV l n else bif dt l kk then (bif cN l n (fQ l kk).rl then 0 else 6) else 2
noncomputable def tc (b:Bool) (v:List Int) (e:Int):R:=some (.tup [.bool b,.lst .int v,.int .i64 e],[])
noncomputable def te (b:Bool) (e:Int):R:=some (.tup [.bool b,.int .i64 e],[])
namespace complete
noncomputable def bd:Code:=(Tryz.f25.body).getD .skip
noncomputable def X:Ctx U El:=⟨E,tds,zeros,eqs,aC [(62,given.sp),(70,nLink.sp)],100000,39,ap [],eP [(71,(pE cornersC.sp))]⟩
noncomputable def nmR:Norm U:=⟨[],[6,7,8],[],[(7,.int)],[],[],[]⟩
noncomputable def RR:ab U El:=fun st=>aE nmR st (aD [6,7,8] [])
noncomputable def fr0 (l:List Rule) (n:Net) (s:List UInt8):St U El:=⟨[(0,(.lst .rule l)),(1,(.agg [(.lst .node n.nds),(.lst .link n.lks)])),(2,(.str s))],[]⟩
noncomputable def sh0 (l:List Rule) (n:Net) (s:List UInt8):R :=
  chk (okN n) (aa ((aV l n) != (0:Int)) (some ((.tup [(.bool false),(.lst .int ([]:List Int)),(.int .i64 (aV l n))]),[])) (chk (okN n) (aa (((bif cz n then (bif ilt (aF n s) 0 then 9 else 0) else 1)) != (0:Int)) (some ((.tup [(.bool false),(.lst .int ([]:List Int)),(.int .i64 ((bif cz n then (bif ilt (aF n s) 0 then 9 else 0) else 1)))]),[])) (chk ((okN n&&(a6 l&&(true&&dK l n s l n.nds)))) (aa (!(cN l n s)) (some ((.tup [(.bool false),(.lst .int ([]:List Int)),(.int .i64 (6:Int))]),[])) (some ((.tup [(.bool (bif cN l n s then Option.isNone (na l n s l s n.nds) else true)),(.lst .int ((bif cN l n s then pX l n s l s n.nds else []))),(.int .i64 (0:Int))]),[])))))))
theorem P0 (l n s):ac X (cdp [] bd) .d (fr0 l n s) RR (fun _ _=>none) RR=sh0 l n s:=by kernel_rfl
noncomputable def f0 (l:List Rule) (n:Net) (s:List UInt8):R:=sh0 l n s
theorem T0 (l n s):ac X bd .d (fr0 l n s) RR (fun _ _=>none) RR=f0 l n s:=by
  refine (P0 l n s).trans ?_
  show _=sh0 l n s
  rfl
theorem run (l n s):aJ X bd .d nmR [6,7,8] [] [(.lst .rule l),(.agg [(.lst .node n.nds),(.lst .link n.lks)]),(.str s)]=f0 l n s:=T0 l n s
theorem f0_eq (l:List Rule) (n:Net) (s:List UInt8) (h:okN n=true):f0 l n s=tc (nc l n s) (lp l n s) (nd l n s):=by
  show sh0 l n s=_
  unfold sh0 nc lp nd oz
  rw [h]
  rcases cS l n with ⟨e1,e2,e3⟩ | ⟨e1,e2,e3⟩
  · obtain ⟨g1, g2, g3⟩ := gM e1
    rw [e2,e3,g1,g2,kj h g1 g3 s]
    cases ilt (aF n s) 0 with
    | true=>rfl
    | false=>cases cN l n s<;>rfl
  · rw [e2,e3]; rfl
theorem ok:CtxOk Tryz.prog X:=aI tab (spC given.spOk (spC nLink.spOk spN)) dpN
theorem okM:MOk Tryz.prog X:=eD _ (mpC (jm ok cornersC.spOk) mpN)
theorem spec (l:List Rule) (n:Net) (s:List UInt8) (h:(okN n)=true):aj Tryz.prog E 25 [(.lst .rule l),(.agg [(.lst .node n.nds),(.lst .link n.lks)]),(.str s)] (.tup [(.bool (nc l n s)),(.lst .int (lp l n s)),(.int .i64 (nd l n s))]) [] :=
  ae ok okM Tryz.call25 Tryz.func25 (by kernel_rfl) (by kernel_rfl) (by kernel_rfl) (by show 3≤39; decide) (by decide) (by rfl) ((run l n s).trans (f0_eq l n s h))
noncomputable def sp:Sp U El:=fun args k=>match args with
  | [.lst .rule l,.agg [.lst .node n_nds,.lst .link n_lks],.str s]=>chk (okN (⟨n_nds,n_lks⟩:Net)) (k (.tup [(.bool (nc l (⟨n_nds,n_lks⟩:Net) s)),(.lst .int (lp l (⟨n_nds,n_lks⟩:Net) s)),(.int .i64 (nd l (⟨n_nds,n_lks⟩:Net) s))]) [])
  | _=>none
theorem spOk:SpOk Tryz.prog E 25 sp where
  det:=fun vs=>by
    unfold sp
    split
    · exact aY _ _ _
    · exact ⟨none,fun _=>rfl⟩
  ok:=fun vs k r h=>by
    unfold sp at h
    split at h
    · obtain ⟨h1, h2⟩ := af h
      exact ⟨_,_,spec _ ⟨_,_⟩ _ h1,h2⟩
    · cases h
end complete
namespace covered
noncomputable def bd:Code:=(Tryz.f26.body).getD .skip
noncomputable def X:Ctx U El:=⟨E,tds,zeros,eqs,aC [(62,given.sp)],100000,37,ap [(71,cornersV.sp)],fun _=>none⟩
noncomputable def nmR:Norm U:=⟨[],[6,7],[],[],[],[],[]⟩
noncomputable def RR:ab U El:=fun st=>aE nmR st (aD [6,7] [])
noncomputable def nm1:Norm U:=⟨[],[3,4,5],[3,4,5],[],[],[],[(3,0,.rule),(4,0,.node),(4,1,.link)]⟩
abbrev Y1:=(List Rule)→(List Node)→(List Lnk)→Int→R
noncomputable def fr0 (l:List Rule) (n:Net) (kk:Int):St U El:=⟨[(0,(.lst .rule l)),(1,(.agg [(.lst .node n.nds),(.lst .link n.lks)])),(2,(.int .i64 kk))],[]⟩
noncomputable def fr1 (aA:List Rule) (dA:List Node) (fA:List Lnk) (eA:Int):St U El:=⟨[(3,(.ptr 3 0)),(4,(.ptr 4 0)),(5,(.ptr 5 0))],[(3,(.box 0 [(.lst .rule aA)])),(4,(.box 0 [(.lst .node dA),(.lst .link fA)])),(5,(.box 0 [(.int .i64 eA)]))]⟩
noncomputable def sh0 (l:List Rule) (n:Net) (kk:Int) (k1:Y1):R :=
  chk (okN n) (aa ((aV l n) != (0:Int)) (some ((.tup [(.bool false),(.int .i64 (aV l n))]),[])) (aa (ilt kk (0:Int)) (some ((.tup [(.bool false),(.int .i64 (2:Int))]),[])) (aa (ile (Int.ofNat (List.length l)) kk) (some ((.tup [(.bool false),(.int .i64 (2:Int))]),[])) (k1 l n.nds n.lks kk))))
noncomputable def sh1 (aA:List Rule) (dA:List Node) (fA:List Lnk) (eA:Int):R :=
  chk (inb eA (List.length aA)) (chk ((okN (⟨dA,fA⟩:Net)&&(a6 aA&&(true&&(dt aA eA&&dK aA (⟨dA,fA⟩:Net) ((List.getD aA (Int.toNat eA) az).rl) aA dA))))) (aa (!(cN aA (⟨dA,fA⟩:Net) ((List.getD aA (Int.toNat eA) az).rl))) (some ((.tup [(.bool false),(.int .i64 (6:Int))]),[])) (some ((.tup [(.bool (bif cN aA (⟨dA,fA⟩:Net) ((List.getD aA (Int.toNat eA) az).rl) then Option.isNone (gN aA (⟨dA,fA⟩:Net) ((List.getD aA (Int.toNat eA) az).rl) aA eA dA) else true)),(.int .i64 (0:Int))]),[]))))
noncomputable def ct1:ab U El:=fun st=>ac X (cdp [1,1,1] bd) (.seq none .d (.seq none (.region [(8,3),(8,5),(8,4),(8,9)]) .d)) st RR (fun _ _=>none) RR
theorem P0 (l n kk):ac X (cdp [] bd) (.seq none .d (.seq none .d (.seq (some nm1) .d (.seq none .d (.seq none (.region [(8,3),(8,5),(8,4),(8,9)]) .d))))) (fr0 l n kk) RR (fun _ _=>none) RR=sh0 l n kk (fun y0 y1 y2 y3=>(hid ct1) (fr1 y0 y1 y2 y3)):=by kernel_rfl
theorem P1 (aA dA fA eA):ct1 (fr1 aA dA fA eA)=sh1 aA dA fA eA:=by kernel_rfl
noncomputable def f1 (aA:List Rule) (dA:List Node) (fA:List Lnk) (eA:Int):R:=sh1 aA dA fA eA
noncomputable def f0 (l:List Rule) (n:Net) (kk:Int):R:=sh0 l n kk f1
theorem T1 (aA dA fA eA):(hid ct1) (fr1 aA dA fA eA)=f1 aA dA fA eA:=by
  refine (congrFun (ai _) _).trans <| (P1 aA dA fA eA).trans ?_
  show _=sh1 aA dA fA eA
  rfl
theorem T0 (l n kk):ac X bd (.seq none .d (.seq none .d (.seq (some nm1) .d (.seq none .d (.seq none (.region [(8,3),(8,5),(8,4),(8,9)]) .d))))) (fr0 l n kk) RR (fun _ _=>none) RR=f0 l n kk:=by
  refine (P0 l n kk).trans ?_
  show _=sh0 l n kk f1
  simp only [T1]
theorem run (l n kk):aJ X bd (.seq none .d (.seq none .d (.seq (some nm1) .d (.seq none .d (.seq none (.region [(8,3),(8,5),(8,4),(8,9)]) .d))))) nmR [6,7] [] [(.lst .rule l),(.agg [(.lst .node n.nds),(.lst .link n.lks)]),(.int .i64 kk)]=f0 l n kk:=T0 l n kk
theorem f0_eq (l : List Rule) (n : Net) (kk : Int) (h : okN n = true) : f0 l n kk = te (gh l n kk) (fR l n kk) := by
  show sh0 l n kk f1=_
  unfold sh0 gh fR nf
  rw [h]
  rcases cS l n with ⟨e1,e2,e3⟩ | ⟨e1,e2,e3⟩
  · obtain ⟨g1, g2, g3⟩ := gM e1
    rw [e2,e3]
    simp only [bL,cO,mZ,Bool.true_and,cond_false]
    cases hk:dt l kk with
    | false=>rfl
    | true =>
      show sh1 l n.nds n.lks kk=_
      unfold sh1
      have h1':okN (⟨n.nds,n.lks⟩:Net)=true:=h
      have hc:dK l (⟨n.nds,n.lks⟩:Net) (List.getD l (Int.toNat kk) az).rl l n.nds=true:=kj h g1 g3 _
      rw [(hU hk).1,h1',g1,hk,hc]
      show aa (!(cN l n (fQ l kk).rl)) _ _=_
      cases hf:cN l n (fQ l kk).rl with
      | false=>rfl
      | true =>
        have hf':cN l (⟨n.nds,n.lks⟩:Net) (List.getD l (Int.toNat kk) az).rl=true:=hf
        rw [hf']; rfl
  · rw [e2,e3]; rfl
theorem ok:CtxOk Tryz.prog X:=aI tab (spC given.spOk spN) (dpC ⟨cornersV.spOk,cornersV.spDet⟩ dpN)
theorem okM:MOk Tryz.prog X:=fun g sp h=>by cases h
theorem spec (l:List Rule) (n:Net) (kk:Int) (h:(okN n)=true):aj Tryz.prog E 26 [(.lst .rule l),(.agg [(.lst .node n.nds),(.lst .link n.lks)]),(.int .i64 kk)] (.tup [(.bool (gh l n kk)),(.int .i64 (fR l n kk))]) [] :=
  ae ok okM Tryz.call26 Tryz.func26 (by kernel_rfl) (by kernel_rfl) (by kernel_rfl) (by show 3≤37; decide) (by decide) (by rfl) ((run l n kk).trans (f0_eq l n kk h))
noncomputable def sp:Sp U El:=fun args k=>match args with
  | [.lst .rule l,.agg [.lst .node n_nds,.lst .link n_lks],.int .i64 kk]=>chk (okN (⟨n_nds,n_lks⟩:Net)) (k (.tup [(.bool (gh l (⟨n_nds,n_lks⟩:Net) kk)),(.int .i64 (fR l (⟨n_nds,n_lks⟩:Net) kk))]) [])
  | _=>none
theorem spOk:SpOk Tryz.prog E 26 sp where
  det:=fun vs=>by
    unfold sp
    split
    · exact aY _ _ _
    · exact ⟨none,fun _=>rfl⟩
  ok:=fun vs k r h=>by
    unfold sp at h
    split at h
    · obtain ⟨h1, h2⟩ := af h
      exact ⟨_,_,spec _ ⟨_,_⟩ _ h1,h2⟩
    · cases h
end covered
noncomputable def exR:List Rule:=[⟨[97],[⟨[116],false,500⟩],[103],1000⟩,⟨[98],[⟨[116],false,700⟩],[103],0⟩]
noncomputable def exN:Net:=⟨[⟨[116],2,0,0,0,1000,[⟨0,0⟩,⟨1000,5000⟩],false,0⟩,⟨[111],3,0,0,0,0,[],false,0⟩],[⟨[103],[116],[111],3,0,0,0,[],100,100,[]⟩]⟩
namespace example_
noncomputable def bd:Code:=(Tryz.f56.body).getD .skip
noncomputable def X:Ctx U El:=⟨E,tds,zeros,eqs,aC [],100000,20,ap [],fun _=>none⟩
noncomputable def nmR:Norm U:=⟨[(0,.rule)],[0,20],[0],[],[],[(20,0,.node),(20,1,.link)],[]⟩
noncomputable def RR:ab U El:=fun st=>ch X 20 [(1,26)] 20 st fun st=>aE nmR st (aD [0,20] [0])
noncomputable def fr0:St U El:=⟨[],[]⟩
noncomputable def sh0:R :=
  some ((.tup [(.ful 0),(.agg [(.lst .node ([(⟨([116]:List UInt8),(2:Int),(0:Int),(0:Int),(0:Int),(1000:Int),([(⟨(0:Int),(0:Int)⟩:Knot),(⟨(1000:Int),(5000:Int)⟩:Knot)]:List Knot),false,(0:Int)⟩:Node),(⟨([111]:List UInt8),(3:Int),(0:Int),(0:Int),(0:Int),(0:Int),[],false,(0:Int)⟩:Node)]:List Node)),(.lst .link ([(⟨([103]:List UInt8),([116]:List UInt8),([111]:List UInt8),(3:Int),(0:Int),(0:Int),(0:Int),([]:List UInt8),(100:Int),(100:Int),[]⟩:Lnk)]:List Lnk))])]),[(0,.rows .rule ([(⟨([97]:List UInt8),([(⟨([116]:List UInt8),false,(500:Int)⟩:Cnd)]:List Cnd),([103]:List UInt8),(1000:Int)⟩:Rule),(⟨([98]:List UInt8),([(⟨([116]:List UInt8),false,(700:Int)⟩:Cnd)]:List Cnd),([103]:List UInt8),(0:Int)⟩:Rule)]:List Rule))])
theorem P0:ac X (cdp [] bd) (.seq none .d (.seq none .d (.seq none (.region [(6,13),(6,16),(9,1)]) .d))) (fr0) RR (fun _ _=>none) RR=sh0:=by kernel_rfl
noncomputable def f0:R:=sh0
theorem T0:ac X bd (.seq none .d (.seq none .d (.seq none (.region [(6,13),(6,16),(9,1)]) .d))) (fr0) RR (fun _ _=>none) RR=f0:=by
  refine (P0).trans ?_
  show _=sh0
  rfl
theorem run:ij X bd (.seq none .d (.seq none .d (.seq none (.region [(6,13),(6,16),(9,1)]) .d))) nmR [(1,26)] [0,20] [0] []=f0:=T0
theorem f0_eq:f0=some (.tup [.ful 0,.agg [.lst .node exN.nds,.lst .link exN.lks]],[(0,.rows .rule exR)]):=rfl
theorem ok:CtxOk Tryz.prog X:=aI tab spN dpN
theorem okM:MOk Tryz.prog X:=fun g sp h=>by cases h
theorem spec:aj Tryz.prog E 56 [] (.tup [(.ful 0),(.agg [(.lst .node ((exN).nds)),(.lst .link ((exN).lks))])]) [(0,.rows .rule (exR))] :=
  cU ok okM Tryz.call56 Tryz.func56 (by kernel_rfl) (by kernel_rfl) (by kernel_rfl) (by show 0≤20; decide) (by decide) (by rfl) ((run).trans (f0_eq))
noncomputable def sp:Sp U El:=fun args k=>match args with
  | []=>k (.tup [(.ful 0),(.agg [(.lst .node ((exN).nds)),(.lst .link ((exN).lks))])]) [(0,.rows .rule (exR))]
  | _=>none
theorem spOk:SpOk Tryz.prog E 56 sp where
  det:=fun vs=>by
    unfold sp
    split
    · exact ⟨some (_,_),fun _=>rfl⟩
    · exact ⟨none,fun _=>rfl⟩
  ok:=fun vs k r h=>by
    unfold sp at h
    split at h
    · exact ⟨_,_,spec,h⟩
    · cases h
end example_
namespace awake
noncomputable def bd:Code:=(Tryz.f12.body).getD .skip
noncomputable def X:Ctx U El:=⟨E,tds,zeros,eqs,aC [(14,witness.sp),(16,equalI.sp),(17,find.sp),(21,equalP.sp),(22,accepted.sp),(25,complete.sp),(56,example_.sp)],100000,90,ap [],fun _=>none⟩
noncomputable def nmR:Norm U:=⟨[],[0],[],[],[],[],[]⟩
noncomputable def RR:ab U El:=fun st=>aE nmR st (aD [0] [])
noncomputable def nm1:Norm U:=⟨[(3,.pair),(5,.int)],[1,2,3,4,5,6],[3,5,2],[(1,.rule)],[],[],[(2,0,.node),(2,1,.link)]⟩
abbrev Y1:=(List Rule)→(List Pair)→Int→(List Int)→Int→(List Node)→(List Lnk)→R
noncomputable def fr0:St U El:=⟨[],[]⟩
noncomputable def fr1 (l1:List Rule) (p3:List Pair) (e4:Int) (w5:List Int) (f6:Int) (bA:List Node) (cA:List Lnk):St U El:=⟨[(1,(.lst .rule l1)),(2,(.ptr 2 0)),(3,(.ful 3)),(4,(.int .i64 e4)),(5,(.ful 5)),(6,(.int .i64 f6))],[(3,(.rows .pair p3)),(5,(.rows .int w5)),(2,(.box 0 [(.lst .node bA),(.lst .link cA)]))]⟩
noncomputable def sh0 (k1:Y1):R :=
  chk (okN (exN)) (chk (okN (exN)) (chk (inb (0:Int) (List.length (exR))) (chk (nlt 0 (List.length (exR))&&true) (k1 (List.set (exR) 0 (⟨(List.getD (exR) 0 az).rn,([(⟨([116]:List UInt8),true,(500:Int)⟩:Cnd)]:List Cnd),(List.getD (exR) 0 az).rl,(List.getD (exR) 0 az).rs⟩:Rule)) (kY (exR) (exN)) (aV (exR) (exN)) (qX (exR) (exN) (0:Int) (1:Int)) (qY (exR) (exN) (0:Int) (1:Int)) ((exN).nds) ((exN).lks)))))
noncomputable def sh1 (l1:List Rule) (p3:List Pair) (e4:Int) (w5:List Int) (f6:Int) (bA:List Node) (cA:List Lnk):R :=
  chk (okN (⟨bA,cA⟩:Net)) (chk (okN (⟨bA,cA⟩:Net)) (aa (e4 == (0:Int)) (chk (nle (List.length p3) 90000) (aa (eqP p3 ([(⟨(0:Int),(1:Int)⟩:Pair)]:List Pair)) (aa (f6 == (0:Int)) (chk (nle (List.length w5) 90000) (aa (eqI w5 ([(700:Int),(0:Int)]:List Int)) (aa ((aV l1 (⟨bA,cA⟩:Net)) == (0:Int)) (aa ((Int.ofNat (List.length (kY l1 (⟨bA,cA⟩:Net)))) == (0:Int)) (aa ((nd l1 (⟨bA,cA⟩:Net) ([103]:List UInt8)) == (0:Int)) (aa (!(nc l1 (⟨bA,cA⟩:Net) ([103]:List UInt8))) (chk (nle (List.length (lp l1 (⟨bA,cA⟩:Net) ([103]:List UInt8))) 90000) (aa (eqI (lp l1 (⟨bA,cA⟩:Net) ([103]:List UInt8)) ([(500:Int),(0:Int)]:List Int)) (chk (okN (⟨bA,cA⟩:Net)) (some ((.bool (qZ l1 (⟨bA,cA⟩:Net))),[]))) (some ((.bool false),[])))) (some ((.bool false),[]))) (some ((.bool false),[]))) (some ((.bool false),[]))) (some ((.bool false),[]))) (some ((.bool false),[])))) (some ((.bool false),[]))) (some ((.bool false),[])))) (some ((.bool false),[]))))
noncomputable def ct1:ab U El:=fun st=>ac X (cdp [1,1,1,1,1] bd) .d st RR (fun _ _=>none) RR
theorem P0:ac X (cdp [] bd) (.seq none .d (.seq none .d (.seq none .d (.seq none .d (.seq (some nm1) .d .d))))) (fr0) RR (fun _ _=>none) RR=sh0 (fun y0 y1 y2 y3 y4 y5 y6=>(hid ct1) (fr1 y0 y1 y2 y3 y4 y5 y6)):=by kernel_rfl
theorem P1 (l1 p3 e4 w5 f6 bA cA):ct1 (fr1 l1 p3 e4 w5 f6 bA cA)=sh1 l1 p3 e4 w5 f6 bA cA:=by kernel_rfl
noncomputable def f1 (l1:List Rule) (p3:List Pair) (e4:Int) (w5:List Int) (f6:Int) (bA:List Node) (cA:List Lnk):R:=sh1 l1 p3 e4 w5 f6 bA cA
noncomputable def f0:R:=sh0 f1
theorem T1 (l1 p3 e4 w5 f6 bA cA):(hid ct1) (fr1 l1 p3 e4 w5 f6 bA cA)=f1 l1 p3 e4 w5 f6 bA cA:=by
  refine (congrFun (ai _) _).trans <| (P1 l1 p3 e4 w5 f6 bA cA).trans ?_
  show _=sh1 l1 p3 e4 w5 f6 bA cA
  rfl
theorem T0:ac X bd (.seq none .d (.seq none .d (.seq none .d (.seq none .d (.seq (some nm1) .d .d))))) (fr0) RR (fun _ _=>none) RR=f0:=by
  refine (P0).trans ?_
  show _=sh0 f1
  simp only [T1]
theorem run:aJ X bd (.seq none .d (.seq none .d (.seq none .d (.seq none .d (.seq (some nm1) .d .d))))) nmR [0] [] []=f0:=T0
theorem f0_eq:f0=aH true:=by kernel_rfl
theorem ok:CtxOk Tryz.prog X:=aI tab (spC witness.spOk (spC equalI.spOk (spC find.spOk (spC equalP.spOk (spC accepted.spOk (spC complete.spOk (spC example_.spOk spN))))))) dpN
theorem okM:MOk Tryz.prog X:=fun g sp h=>by cases h
theorem spec:aj Tryz.prog E 12 [] (.bool (true)) [] :=
  ae ok okM Tryz.call12 Tryz.func12 (by kernel_rfl) (by kernel_rfl) (by kernel_rfl) (by show 0≤90; decide) (by decide) (by rfl) ((run).trans (f0_eq))
noncomputable def sp:Sp U El:=fun args k=>match args with
  | []=>k (.bool (true)) []
  | _=>none
theorem spOk:SpOk Tryz.prog E 12 sp where
  det:=fun vs=>by
    unfold sp
    split
    · exact ⟨some (_,_),fun _=>rfl⟩
    · exact ⟨none,fun _=>rfl⟩
  ok:=fun vs k r h=>by
    unfold sp at h
    split at h
    · exact ⟨_,_,spec,h⟩
    · cases h
end awake
end Go.Proofs.YthdimnlkcgchoaaGreat
