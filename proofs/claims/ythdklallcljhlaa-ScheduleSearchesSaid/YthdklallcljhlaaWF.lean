/- The document's search: a method that calls itself. -/
import Derived.Test.YthdklallcljhlaaWC
import Derived.Test.YthdklallcljhlaaWA
namespace Go.Proofs.Ythdklallcljhlaa
set_option linter.unusedSectionVars false
set_option linter.unusedSimpArgs false
set_option linter.unusedVariables false
set_option maxRecDepth 100000
structure Fx where
  left:Int
  plan:List Slot
  cost:Int
  any_:Bool
noncomputable def frC (rec_:List Slot→Fx→Fx) (l:List Work) (pl:List Slot) (k:Int):List Int→Fx→Fx
  | [],s=>s
  | c :: t,s=>bif ile 0 s.left then frC rec_ l pl k t (rec_ (pl++[ch l pl k c]) s) else s
noncomputable def frI (rec_:Nat→List Slot→Fx→Fx) (l:List Work) (pl:List Slot) (dn:List Bool):Nat→Nat→Fx→Fx
  | 0,_,s=>s
  | m+1,k,s=>bif bx l dn (k:Int) then (bif ile 0 s.left then frI rec_ l pl dn m (k+1) (frC (rec_ k) l pl (k:Int) (List.getD l k aa).wc s) else s) else frI rec_ l pl dn m (k+1) s
noncomputable def frm (l:List Work):Nat→List Slot→List Bool→Fx→Fx
  | 0,_,_,s=>s
  | n + 1, pl, dn, s => bif ilt (IntKind.wrap .i64 (s.left - 1)) 0 then ⟨IntKind.wrap .i64 (s.left - 1), s.plan, s.cost, s.any_⟩ else
      bif Int.ofNat pl.length == Int.ofNat l.length then (bif !s.any_||ilt (b8 l pl) s.cost then ⟨IntKind.wrap .i64 (s.left - 1),j9 pl,b8 l pl,true⟩ else ⟨IntKind.wrap .i64 (s.left - 1),s.plan,s.cost,s.any_⟩)
      else frI (fun k pl' s'=>frm l n pl' (List.set dn k true) s') l pl dn l.length 0 ⟨IntKind.wrap .i64 (s.left - 1),s.plan,s.cost,s.any_⟩
def lq (l:List Work) (n:Nat) (pl:List Slot) (dn:List Bool):Prop:=okV l=true∧aQ l 12=true∧l.length≤12∧∃ sl,GS l sl dn∧GJ l sl dn ((pl.length:Int) * 1000)∧PR l sl dn pl∧pl.length+bh dn=l.length∧bh dn < n
noncomputable def frP (l:List Work) (n:Nat) (pl:List Slot) (dn:List Bool):Bool:=@decide (lq l n pl dn) (Classical.propDecidable _)
theorem frP_iff {l:List Work} {n:Nat} {pl:List Slot} {dn:List Bool}:frP l n pl dn=true↔lq l n pl dn:=@decide_eq_true_iff _ (Classical.propDecidable _)
theorem si {l:List Work} {sl:List Slot} {dn:List Bool} {pl:List Slot} {T:Int} {q:Nat} (hv:okV l=true) (hval:aQ l 12=true) (hJ:GJ l sl dn T) (hT:T≤90000) (hR:PR l sl dn pl) (hpl:pl.length≤90000) (hq:q < l.length):okP l pl (q:Int)=true:=by
  have hV:=aR hval
  simp only [okP,Bool.and_eq_true]
  refine ⟨aZ hq,bC hpl,List.all_eq_true.2 fun v hvm => ?_,List.all_eq_true.2 fun s hs => ?_⟩
  · obtain ⟨g1, g2⟩ := dg hV.good v hvm
    rw [bC ((cq hv).2 v hvm).1,bD (by omega),bD g2]
    rfl
  · obtain ⟨k, hkl, hdk, rfl⟩ := hR.fro s hs
    have hK:=hJ k hkl hdk
    have h7:=hK.s0
    have h8:=hK.s9
    have h9:=(dg hV.good _ (List.getElem_mem hkl)).1
    rw [al hkl] at h8
    rw [hK.sw,aZ hkl,bD h7,bD (by omega)]
    rfl
theorem kw {l:List Work} {n:Nat} {pl:List Slot} {dn:List Bool} {q:Nat} {c:Int} (h:lq l (n+1) pl dn) (hq:q < l.length) (hr:bx l dn (q:Int)=true) (hc:c∈(List.getD l q aa).wc):okP l pl (q:Int)=true∧lq l n (pl++[ch l pl (q:Int) c]) (dn.set q true):=by
  obtain ⟨hv,hval,hl,sl,hg,hJ,hR,hcnt,hn⟩:=h
  have hS:=mq hv hval hg hq hr
  have hany:List.any (List.getD l q aa).wc (bc c)=true:=List.any_eq_true.2 ⟨c,hc,by simp [bc]⟩
  have hpe:=mF hS hJ hR (by omega) (by omega) hany
  obtain ⟨v,s1,s2,s3,s4,s5⟩:=gM hS hJ (by omega) (by omega) hany
  have ev:aC l sl dn (q:Int) c=v:=s1
  have eS:ch l pl (q:Int) c=⟨(q:Int),c,v⟩:=by unfold ch; rw [hpe,ev]
  obtain ⟨k1,k2⟩:=gK hg hq hr c v
  have hJ':=li hS hJ hany s2 s3 (by omega) s4 s5
  refine ⟨si hv hval hJ (by omega) hR (by omega) hq,hv,hval,hl,sl.set q ⟨(q:Int),c,v⟩,k1,?_,?_,?_,by omega⟩
  · rw [List.length_append, List.length_singleton, show (((pl.length + 1 : Nat)) : Int) * 1000 = (pl.length : Int) * 1000 + 1000 by omega]
    exact hJ'
  · rw [eS]
    exact n6 hq hg.len hg.good.1 hS.dq hR
  · rw [List.length_append,List.length_singleton]; omega
theorem qv {l:List Work} {n:Nat} {pl:List Slot} {dn:List Bool} (h:lq l n pl dn):∀ s∈pl,inb s.sw l.length=true:=by
  obtain ⟨hv,hval,hl,sl,hg,hJ,hR,hcnt,hn⟩:=h
  intro s hs
  obtain ⟨k,hk,hd,rfl⟩:=hR.fro s hs
  rw [(hJ k hk hd).sw]
  exact aZ hk
def FrC (n:Nat):Prop:=∀ (dn:List Bool) (l:List Work) (left:Int) (cost:Int) (any_:Bool) (pl:List Slot) (pn:List Slot),(frP l n pl dn)=true→MCall Try.prog E 48 [(.ptr 1000000000 0),(.ful 1000000001),(.lst .bool dn)] [(1000000000,(.box 1000000000 [(.lst .work l),(.int .i64 left),(.ful 1000000002),(.int .i64 cost),(.bool any_)])),(1000000001,(.rows .slot pl)),(1000000002,(.rows .slot pn))] (.tup []) [(1000000000,(.box 1000000000 [(.lst .work l),(.int .i64 (Fx.left (frm l n pl dn (⟨left,pn,cost,any_⟩:Fx)))),(.ful 1000000002),(.int .i64 (Fx.cost (frm l n pl dn (⟨left,pn,cost,any_⟩:Fx)))),(.bool (Fx.any_ (frm l n pl dn (⟨left,pn,cost,any_⟩:Fx))))])),(1000000002,(.rows .slot (Fx.plan (frm l n pl dn (⟨left,pn,cost,any_⟩:Fx)))))]
class BndF where
  n:Nat
  ok:FrC n
section
variable [BndF]
namespace fromR
theorem spec (dn:List Bool) (l:List Work) (left:Int) (cost:Int) (any_:Bool) (pl:List Slot) (pn:List Slot) (h:(frP l BndF.n pl dn)=true):MCall Try.prog E 48 [(.ptr 1000000000 0),(.ful 1000000001),(.lst .bool dn)] [(1000000000,(.box 1000000000 [(.lst .work l),(.int .i64 left),(.ful 1000000002),(.int .i64 cost),(.bool any_)])),(1000000001,(.rows .slot pl)),(1000000002,(.rows .slot pn))] (.tup []) [(1000000000,(.box 1000000000 [(.lst .work l),(.int .i64 (Fx.left (frm l BndF.n pl dn (⟨left,pn,cost,any_⟩:Fx)))),(.ful 1000000002),(.int .i64 (Fx.cost (frm l BndF.n pl dn (⟨left,pn,cost,any_⟩:Fx)))),(.bool (Fx.any_ (frm l BndF.n pl dn (⟨left,pn,cost,any_⟩:Fx))))])),(1000000002,(.rows .slot (Fx.plan (frm l BndF.n pl dn (⟨left,pn,cost,any_⟩:Fx)))))]:=BndF.ok _ _ _ _ _ _ _ h
noncomputable def sp:MSp U El:=fun args hs k=>match args,hs with
  | [.ptr q0 0,.ful q1,.lst .bool dn],[(q2,.box q3 [.lst .work l,.int .i64 left,.ful q4,.int .i64 cost,.bool any_]),(q5,.rows .slot pl),(q6,.rows .slot pn)]=>chk (Nat.beq q0 1000000000&&(Nat.beq q1 1000000001&&(Nat.beq q2 1000000000&&(Nat.beq q3 1000000000&&(Nat.beq q4 1000000002&&(Nat.beq q5 1000000001&&(Nat.beq q6 1000000002&&true))))))) (chk (frP l BndF.n pl dn) (k (.tup []) [(1000000000,(.box 1000000000 [(.lst .work l),(.int .i64 (Fx.left (frm l BndF.n pl dn (⟨left,pn,cost,any_⟩:Fx)))),(.ful 1000000002),(.int .i64 (Fx.cost (frm l BndF.n pl dn (⟨left,pn,cost,any_⟩:Fx)))),(.bool (Fx.any_ (frm l BndF.n pl dn (⟨left,pn,cost,any_⟩:Fx))))])),(1000000002,(.rows .slot (Fx.plan (frm l BndF.n pl dn (⟨left,pn,cost,any_⟩:Fx)))))]))
  | _,_=>none
theorem spOk:cJ Try.prog E 48 sp:=⟨Try.call48,fun args hs k r h=>by
  unfold sp at h
  split at h
  · obtain ⟨hq, hA⟩ := ab h
    clear h
    simp only [Bool.and_eq_true] at hq
    obtain ⟨e0,e1,e2,e3,e4,e5,e6,_⟩:=hq
    cases Nat.eq_of_beq_eq_true e0
    cases Nat.eq_of_beq_eq_true e1
    cases Nat.eq_of_beq_eq_true e2
    cases Nat.eq_of_beq_eq_true e3
    cases Nat.eq_of_beq_eq_true e4
    cases Nat.eq_of_beq_eq_true e5
    cases Nat.eq_of_beq_eq_true e6
    obtain ⟨h1,hB⟩:=ab hA
    exact ⟨_,_,spec _ _ _ _ _ _ _ h1,hB⟩
  · cases h⟩
theorem spDet:∀ args hs,∃ oo:Option (AV U El×ar U El),∀ k,sp args hs k=oo.bind fun p=>k p.1 p.2:=fun args hs=>by
  unfold sp
  split
  · exact aO (aO ⟨some (_,_),fun _=>rfl⟩)
  · exact ⟨none,fun _=>rfl⟩
end fromR
noncomputable def rj (s:Fx) (l:List Work):R:=some ((.tup []),[(1000000000,(.box 1000000000 [(.lst .work l),(.int .i64 s.left),(.ful 1000000002),(.int .i64 s.cost),(.bool s.any_)])),(1000000002,(.rows .slot s.plan))])
namespace fromL
noncomputable def bd:Code:=(Try.f48.body).getD .skip
noncomputable def X:Ctx U El:=⟨E,tds,zeros,eqs,aG [(41,rready.sp),(59,rplace.sp),(60,rordered.sp),(62,rcost.sp)],100000,137,aD [(48,fromR.sp)],fun _=>none⟩
noncomputable def nmR:Norm U:=⟨[],[],[1000000000,1000000002],[],[(1000000000,2,.slot,1000000002)],[],[]⟩
noncomputable def RR:ae U El:=fun st=>aM nmR st (dI [])
noncomputable def nm1:Norm U:=⟨[],[0,1,2],[1000000000,1000000002,1000000001],[],[(1000000000,2,.slot,1000000002)],[],[(1000000000,0,.work)]⟩
noncomputable def nm2:Norm U:=⟨[],[0,1,2,7],[1000000000,1000000002,1000000001],[],[(1000000000,2,.slot,1000000002)],[],[(1000000000,0,.work)]⟩
noncomputable def nm3:Norm U:=⟨[],[0,1,2,7],[1000000000,1000000002,1000000001],[],[(1000000000,2,.slot,1000000002)],[],[(1000000000,0,.work)]⟩
noncomputable def nm4:Norm U:=⟨[],[0,1,2,7],[1000000000,1000000002,1000000001],[],[(1000000000,2,.slot,1000000002)],[],[(1000000000,0,.work)]⟩
noncomputable def nm5:Norm U:=⟨[],[0,1,2,7,8,9],[1000000000,1000000002,1000000001],[(8,.bool)],[(1000000000,2,.slot,1000000002)],[],[(1000000000,0,.work)]⟩
noncomputable def nm6:Norm U:=⟨[],[0,1,2,7,8,9],[1000000000,1000000002,1000000001],[],[(1000000000,2,.slot,1000000002)],[],[(1000000000,0,.work)]⟩
noncomputable def nm7:Norm U:=⟨[],[0,1,2,7,8,9],[1000000000,1000000002,1000000001],[],[(1000000000,2,.slot,1000000002)],[],[(1000000000,0,.work)]⟩
abbrev Y1:=(List Bool)→(List Work)→Int→(List Slot)→Int→Bool→(List Slot)→R
abbrev Y2:=(List Bool)→Int→(List Work)→Int→(List Slot)→Int→Bool→(List Slot)→R
abbrev Y3:=(List Bool)→Int→(List Work)→Int→(List Slot)→Int→Bool→(List Slot)→R
abbrev Y4:=(List Bool)→Int→(List Work)→Int→(List Slot)→Int→Bool→(List Slot)→R
abbrev Y5:=(List Bool)→Int→(List Bool)→Int→(List Work)→Int→(List Slot)→Int→Bool→(List Slot)→R
abbrev Y6:=(List Bool)→Int→(List Bool)→Int→(List Work)→Int→(List Slot)→Int→Bool→(List Slot)→R
abbrev Y7:=(List Bool)→Int→(List Bool)→Int→(List Work)→Int→(List Slot)→Int→Bool→(List Slot)→R
noncomputable def fr0 (dn:List Bool) (l:List Work) (left:Int) (cost:Int) (any_:Bool) (pl:List Slot) (pn:List Slot):St U El:=⟨[(0,(.ptr 1000000000 0)),(1,(.ful 1000000001)),(2,(.lst .bool dn))],[(1000000000,(.box 1000000000 [(.lst .work l),(.int .i64 left),(.ful 1000000002),(.int .i64 cost),(.bool any_)])),(1000000001,(.rows .slot pl)),(1000000002,(.rows .slot pn))]⟩
noncomputable def fr1 (fA:List Bool) (aA:List Work) (bA:Int) (cA:List Slot) (dA:Int) (eA:Bool) (gA:List Slot):St U El:=⟨[(0,(.ptr 1000000000 0)),(1,(.ful 1000000001)),(2,(.lst .bool fA))],[(1000000000,(.box 1000000000 [(.lst .work aA),(.int .i64 bA),(.ful 1000000002),(.int .i64 dA),(.bool eA)])),(1000000002,(.rows .slot cA)),(1000000001,(.rows .slot gA))]⟩
noncomputable def fr2 (fA:List Bool) (i7:Int) (aA:List Work) (bA:Int) (cA:List Slot) (dA:Int) (eA:Bool) (gA:List Slot):St U El:=⟨[(0,(.ptr 1000000000 0)),(1,(.ful 1000000001)),(2,(.lst .bool fA)),(7,(.int .i64 i7))],[(1000000000,(.box 1000000000 [(.lst .work aA),(.int .i64 bA),(.ful 1000000002),(.int .i64 dA),(.bool eA)])),(1000000002,(.rows .slot cA)),(1000000001,(.rows .slot gA))]⟩
noncomputable def fr3 (fA:List Bool) (i7:Int) (aA:List Work) (bA:Int) (cA:List Slot) (dA:Int) (eA:Bool) (gA:List Slot):St U El:=⟨[(0,(.ptr 1000000000 0)),(1,(.ful 1000000001)),(2,(.lst .bool fA)),(7,(.int .i64 i7))],[(1000000000,(.box 1000000000 [(.lst .work aA),(.int .i64 bA),(.ful 1000000002),(.int .i64 dA),(.bool eA)])),(1000000002,(.rows .slot cA)),(1000000001,(.rows .slot gA))]⟩
noncomputable def fr4 (fA:List Bool) (i7:Int) (aA:List Work) (bA:Int) (cA:List Slot) (dA:Int) (eA:Bool) (gA:List Slot):St U El:=⟨[(0,(.ptr 1000000000 0)),(1,(.ful 1000000001)),(2,(.lst .bool fA)),(7,(.int .i64 i7))],[(1000000000,(.box 1000000000 [(.lst .work aA),(.int .i64 bA),(.ful 1000000002),(.int .i64 dA),(.bool eA)])),(1000000002,(.rows .slot cA)),(1000000001,(.rows .slot gA))]⟩
noncomputable def fr5 (fA:List Bool) (i7:Int) (iA:List Bool) (jA:Int) (aA:List Work) (bA:Int) (cA:List Slot) (dA:Int) (eA:Bool) (gA:List Slot):St U El:=⟨[(0,(.ptr 1000000000 0)),(1,(.ful 1000000001)),(2,(.lst .bool fA)),(7,(.int .i64 i7)),(8,(.lst .bool iA)),(9,(.int .i64 jA))],[(1000000000,(.box 1000000000 [(.lst .work aA),(.int .i64 bA),(.ful 1000000002),(.int .i64 dA),(.bool eA)])),(1000000002,(.rows .slot cA)),(1000000001,(.rows .slot gA))]⟩
noncomputable def fr6 (fA:List Bool) (i7:Int) (iA:List Bool) (jA:Int) (aA:List Work) (bA:Int) (cA:List Slot) (dA:Int) (eA:Bool) (gA:List Slot):St U El:=⟨[(0,(.ptr 1000000000 0)),(1,(.ful 1000000001)),(2,(.lst .bool fA)),(7,(.int .i64 i7)),(8,(.lst .bool iA)),(9,(.int .i64 jA))],[(1000000000,(.box 1000000000 [(.lst .work aA),(.int .i64 bA),(.ful 1000000002),(.int .i64 dA),(.bool eA)])),(1000000002,(.rows .slot cA)),(1000000001,(.rows .slot gA))]⟩
noncomputable def fr7 (fA:List Bool) (i7:Int) (iA:List Bool) (jA:Int) (aA:List Work) (bA:Int) (cA:List Slot) (dA:Int) (eA:Bool) (gA:List Slot):St U El:=⟨[(0,(.ptr 1000000000 0)),(1,(.ful 1000000001)),(2,(.lst .bool fA)),(7,(.int .i64 i7)),(8,(.lst .bool iA)),(9,(.int .i64 jA))],[(1000000000,(.box 1000000000 [(.lst .work aA),(.int .i64 bA),(.ful 1000000002),(.int .i64 dA),(.bool eA)])),(1000000002,(.rows .slot cA)),(1000000001,(.rows .slot gA))]⟩
noncomputable def sh0 (dn:List Bool) (l:List Work) (left:Int) (cost:Int) (any_:Bool) (pl:List Slot) (pn:List Slot) (k1:Y1):R :=
  ah (ilt (IntKind.wrap .i64 (left - (1:Int))) (0:Int)) (some ((.tup []),[(1000000000,(.box 1000000000 [(.lst .work l),(.int .i64 (IntKind.wrap .i64 (left - (1:Int)))),(.ful 1000000002),(.int .i64 cost),(.bool any_)])),(1000000002,(.rows .slot pn))])) (ah ((Int.ofNat (List.length pl)) == (Int.ofNat (List.length l))) (chk (d3 l pl) (ah (!any_) (chk ((nle (List.length pl) 90000&&List.all pl (fun s=>inb (Slot.sw s) (List.length pl)))) (some ((.tup []),[(1000000000,(.box 1000000000 [(.lst .work l),(.int .i64 (IntKind.wrap .i64 (left - (1:Int)))),(.ful 1000000002),(.int .i64 (b8 l pl)),(.bool true)])),(1000000002,(.rows .slot (j9 pl)))]))) (ah (ilt (b8 l pl) cost) (chk ((nle (List.length pl) 90000&&List.all pl (fun s=>inb (Slot.sw s) (List.length pl)))) (some ((.tup []),[(1000000000,(.box 1000000000 [(.lst .work l),(.int .i64 (IntKind.wrap .i64 (left - (1:Int)))),(.ful 1000000002),(.int .i64 (b8 l pl)),(.bool true)])),(1000000002,(.rows .slot (j9 pl)))]))) (some ((.tup []),[(1000000000,(.box 1000000000 [(.lst .work l),(.int .i64 (IntKind.wrap .i64 (left - (1:Int)))),(.ful 1000000002),(.int .i64 cost),(.bool any_)])),(1000000002,(.rows .slot pn))]))))) (k1 dn l (IntKind.wrap .i64 (left - (1:Int))) pn cost any_ pl))
noncomputable def sh1 (fA:List Bool) (aA:List Work) (bA:Int) (cA:List Slot) (dA:Int) (eA:Bool) (gA:List Slot) (k2:Y2):R :=
  chk ((okO aA&&(Nat.beq (List.length fA) (List.length aA)&&ile 0 (0:Int)))) (k2 fA (bM aA fA (0:Int)) aA bA cA dA eA gA)
noncomputable def sh2 (fA:List Bool) (i7:Int) (aA:List Work) (bA:Int) (cA:List Slot) (dA:Int) (eA:Bool) (gA:List Slot) (k3:Y3):R :=
  ah (ile (0:Int) i7) (ah (ile (0:Int) bA) (k3 fA i7 aA bA cA dA eA gA) (some ((.tup []),[(1000000000,(.box 1000000000 [(.lst .work aA),(.int .i64 bA),(.ful 1000000002),(.int .i64 dA),(.bool eA)])),(1000000002,(.rows .slot cA))]))) (some ((.tup []),[(1000000000,(.box 1000000000 [(.lst .work aA),(.int .i64 bA),(.ful 1000000002),(.int .i64 dA),(.bool eA)])),(1000000002,(.rows .slot cA))]))
noncomputable def sh3 (fA:List Bool) (i7:Int) (aA:List Work) (bA:Int) (cA:List Slot) (dA:Int) (eA:Bool) (gA:List Slot) (k5:Y5):R :=
  chk (nle ((List.length ([]:List Bool)+List.length fA) * 1) 140737488355328&&nle (List.length ([]:List Bool)+List.length fA) 9223372036854775807) (chk (inb i7 (List.length (([]:List Bool)++fA))) (chk (nlt (Int.toNat i7) (List.length (([]:List Bool)++fA))&&true) (k5 fA i7 (List.set (([]:List Bool)++fA) (Int.toNat i7) true) (0:Int) aA bA cA dA eA gA)))
noncomputable def sh4 (fA:List Bool) (i7:Int) (aA:List Work) (bA:Int) (cA:List Slot) (dA:Int) (eA:Bool) (gA:List Slot) (k2:Y2):R :=
  chk ((okO aA&&(Nat.beq (List.length fA) (List.length aA)&&ile 0 (IntKind.wrap .i64 (i7+(1:Int)))))) (k2 fA (bM aA fA (IntKind.wrap .i64 (i7+(1:Int)))) aA bA cA dA eA gA)
noncomputable def sh5 (fA:List Bool) (i7:Int) (iA:List Bool) (jA:Int) (aA:List Work) (bA:Int) (cA:List Slot) (dA:Int) (eA:Bool) (gA:List Slot) (k6:Y6):R :=
  k6 fA i7 iA jA aA bA cA dA eA gA
noncomputable def sh6 (fA:List Bool) (i7:Int) (iA:List Bool) (jA:Int) (aA:List Work) (bA:Int) (cA:List Slot) (dA:Int) (eA:Bool) (gA:List Slot) (k4:Y4) (k7:Y7):R :=
  chk (inb i7 (List.length aA)) (ah (ilt jA (Int.ofNat (List.length ((List.getD aA (Int.toNat i7) aa).wc)))) (ah (ile (0:Int) bA) (k7 fA i7 iA jA aA bA cA dA eA gA) (k4 fA i7 aA bA cA dA eA gA)) (k4 fA i7 aA bA cA dA eA gA))
noncomputable def sh7 (fA:List Bool) (i7:Int) (iA:List Bool) (jA:Int) (aA:List Work) (bA:Int) (cA:List Slot) (dA:Int) (eA:Bool) (gA:List Slot) (k6:Y6):R :=
  chk (nle ((List.length ([]:List Slot)+List.length gA) * 24) 140737488355328&&nle (List.length ([]:List Slot)+List.length gA) 9223372036854775807) (chk (inb i7 (List.length aA)) (chk (inb jA (List.length ((List.getD aA (Int.toNat i7) aa).wc))) (chk (okP aA gA i7) (chk (nle ((List.length (([]:List Slot)++gA)+List.length ([(ch aA gA i7 (List.getD ((List.getD aA (Int.toNat i7) aa).wc) (Int.toNat jA) d_int))]:List Slot)) * 24) 140737488355328&&nle (List.length (([]:List Slot)++gA)+List.length ([(ch aA gA i7 (List.getD ((List.getD aA (Int.toNat i7) aa).wc) (Int.toNat jA) d_int))]:List Slot)) 9223372036854775807) (chk (frP aA BndF.n ((([]:List Slot)++gA)++([(ch aA gA i7 (List.getD ((List.getD aA (Int.toNat i7) aa).wc) (Int.toNat jA) d_int))]:List Slot)) iA) (k6 fA i7 iA (IntKind.wrap .i64 (jA+(1:Int))) aA (Fx.left (frm aA BndF.n ((([]:List Slot)++gA)++([(ch aA gA i7 (List.getD ((List.getD aA (Int.toNat i7) aa).wc) (Int.toNat jA) d_int))]:List Slot)) iA (⟨bA,cA,dA,eA⟩:Fx))) (Fx.plan (frm aA BndF.n ((([]:List Slot)++gA)++([(ch aA gA i7 (List.getD ((List.getD aA (Int.toNat i7) aa).wc) (Int.toNat jA) d_int))]:List Slot)) iA (⟨bA,cA,dA,eA⟩:Fx))) (Fx.cost (frm aA BndF.n ((([]:List Slot)++gA)++([(ch aA gA i7 (List.getD ((List.getD aA (Int.toNat i7) aa).wc) (Int.toNat jA) d_int))]:List Slot)) iA (⟨bA,cA,dA,eA⟩:Fx))) (Fx.any_ (frm aA BndF.n ((([]:List Slot)++gA)++([(ch aA gA i7 (List.getD ((List.getD aA (Int.toNat i7) aa).wc) (Int.toNat jA) d_int))]:List Slot)) iA (⟨bA,cA,dA,eA⟩:Fx))) gA))))))
noncomputable def it2 (n:Nat):ae U El:=bL nm2 (fun st' K'=>ak X (cdp [1,1,1,1,0,0] bd) (.seq (some nm3) .d (.seq (some nm4) (.block (.seq none .d (.seq none .d (.seq (some nm5) .d (.block (.loop nm6 (.seq (some nm7) .d (.seq none (.block (.region [(3,112),(23,114),(25,1000000000),(25,134),(25,1000000002)])) .d)))))))) .d)) st' K' (aw 0 RR (fun _ _=>none)) RR) n
noncomputable def it6 (Kb4:ae U El) (n:Nat):ae U El:=bL nm6 (fun st' K'=>ak X (cdp [1,1,1,1,0,0,1,0,0,1,1,1,0,0] bd) (.seq (some nm7) .d (.seq none (.block (.region [(3,112),(23,114),(25,1000000000),(25,134),(25,1000000002)])) .d)) st' K' (aw 2 (ap nm4 Kb4) (aw 1 (ap nm4 Kb4) (aw 0 RR (fun _ _=>none)))) RR) n
noncomputable def ct1:ae U El:=fun st=>ak X (cdp [1,1,1] bd) (.seq none .d (.block (.loop nm2 (.seq (some nm3) .d (.seq (some nm4) (.block (.seq none .d (.seq none .d (.seq (some nm5) .d (.block (.loop nm6 (.seq (some nm7) .d (.seq none (.block (.region [(3,112),(23,114),(25,1000000000),(25,134),(25,1000000002)])) .d)))))))) .d))))) st RR (fun _ _=>none) RR
noncomputable def ct3 (Kb2:ae U El):ae U El:=fun st=>ak X (cdp [1,1,1,1,0,0,1] bd) (.seq (some nm4) (.block (.seq none .d (.seq none .d (.seq (some nm5) .d (.block (.loop nm6 (.seq (some nm7) .d (.seq none (.block (.region [(3,112),(23,114),(25,1000000000),(25,134),(25,1000000002)])) .d)))))))) .d) st (ap nm2 Kb2) (aw 0 RR (fun _ _=>none)) RR
noncomputable def ct4 (Kb2:ae U El):ae U El:=fun st=>ak X (cdp [1,1,1,1,0,0,1,1] bd) .d st (ap nm2 Kb2) (aw 0 RR (fun _ _=>none)) RR
noncomputable def ct5 (Kb4:ae U El):ae U El:=fun st=>ak X (cdp [1,1,1,1,0,0,1,0,0,1,1,1] bd) (.block (.loop nm6 (.seq (some nm7) .d (.seq none (.block (.region [(3,112),(23,114),(25,1000000000),(25,134),(25,1000000002)])) .d)))) st (ap nm4 Kb4) (aw 1 (ap nm4 Kb4) (aw 0 RR (fun _ _=>none))) RR
noncomputable def ct7 (Kb4 Kb6:ae U El):ae U El:=fun st=>ak X (cdp [1,1,1,1,0,0,1,0,0,1,1,1,0,0,1] bd) (.seq none (.block (.region [(3,112),(23,114),(25,1000000000),(25,134),(25,1000000002)])) .d) st (ap nm6 Kb6) (aw 2 (ap nm4 Kb4) (aw 1 (ap nm4 Kb4) (aw 0 RR (fun _ _=>none)))) RR
theorem P0 (dn l left cost any_ pl pn):ak X (cdp [] bd) (.seq none .d (.seq none .d (.seq (some nm1) .d (.seq none .d (.block (.loop nm2 (.seq (some nm3) .d (.seq (some nm4) (.block (.seq none .d (.seq none .d (.seq (some nm5) .d (.block (.loop nm6 (.seq (some nm7) .d (.seq none (.block (.region [(3,112),(23,114),(25,1000000000),(25,134),(25,1000000002)])) .d)))))))) .d)))))))) (fr0 dn l left cost any_ pl pn) RR (fun _ _=>none) RR=sh0 dn l left cost any_ pl pn (fun y0 y1 y2 y3 y4 y5 y6=>(hid ct1) (fr1 y0 y1 y2 y3 y4 y5 y6)):=by kernel_rfl
theorem P1 (fA aA bA cA dA eA gA):ct1 (fr1 fA aA bA cA dA eA gA)=sh1 fA aA bA cA dA eA gA (fun y0 y1 y2 y3 y4 y5 y6 y7=>(hid (it2 100000)) (fr2 y0 y1 y2 y3 y4 y5 y6 y7)):=by kernel_rfl
theorem P2 (fA i7 aA bA cA dA eA gA) (Kb2:ae U El):ak X (cdp [1,1,1,1,0,0] bd) (.seq (some nm3) .d (.seq (some nm4) (.block (.seq none .d (.seq none .d (.seq (some nm5) .d (.block (.loop nm6 (.seq (some nm7) .d (.seq none (.block (.region [(3,112),(23,114),(25,1000000000),(25,134),(25,1000000002)])) .d)))))))) .d)) (fr2 fA i7 aA bA cA dA eA gA) (ap nm2 Kb2) (aw 0 RR (fun _ _=>none)) RR=sh2 fA i7 aA bA cA dA eA gA (fun y0 y1 y2 y3 y4 y5 y6 y7=>(hid (ct3 Kb2)) (fr3 y0 y1 y2 y3 y4 y5 y6 y7)):=by kernel_rfl
theorem P3 (fA i7 aA bA cA dA eA gA) (Kb2:ae U El):ct3 Kb2 (fr3 fA i7 aA bA cA dA eA gA)=sh3 fA i7 aA bA cA dA eA gA (fun y0 y1 y2 y3 y4 y5 y6 y7 y8 y9=>(hid (ct5 (hid (ct4 Kb2)))) (fr5 y0 y1 y2 y3 y4 y5 y6 y7 y8 y9)):=by kernel_rfl
theorem P4 (fA i7 aA bA cA dA eA gA) (Kb2:ae U El):ct4 Kb2 (fr4 fA i7 aA bA cA dA eA gA)=sh4 fA i7 aA bA cA dA eA gA (fun y0 y1 y2 y3 y4 y5 y6 y7=>Kb2 (fr2 y0 y1 y2 y3 y4 y5 y6 y7)):=by kernel_rfl
theorem P5 (fA i7 iA jA aA bA cA dA eA gA) (Kb4:ae U El):ct5 Kb4 (fr5 fA i7 iA jA aA bA cA dA eA gA)=sh5 fA i7 iA jA aA bA cA dA eA gA (fun y0 y1 y2 y3 y4 y5 y6 y7 y8 y9=>(hid (it6 Kb4 100000)) (fr6 y0 y1 y2 y3 y4 y5 y6 y7 y8 y9)):=by kernel_rfl
theorem P6 (fA i7 iA jA aA bA cA dA eA gA) (Kb4 Kb6:ae U El):ak X (cdp [1,1,1,1,0,0,1,0,0,1,1,1,0,0] bd) (.seq (some nm7) .d (.seq none (.block (.region [(3,112),(23,114),(25,1000000000),(25,134),(25,1000000002)])) .d)) (fr6 fA i7 iA jA aA bA cA dA eA gA) (ap nm6 Kb6) (aw 2 (ap nm4 Kb4) (aw 1 (ap nm4 Kb4) (aw 0 RR (fun _ _=>none)))) RR=sh6 fA i7 iA jA aA bA cA dA eA gA (fun y0 y1 y2 y3 y4 y5 y6 y7=>Kb4 (fr4 y0 y1 y2 y3 y4 y5 y6 y7)) (fun y0 y1 y2 y3 y4 y5 y6 y7 y8 y9=>(hid (ct7 Kb4 Kb6)) (fr7 y0 y1 y2 y3 y4 y5 y6 y7 y8 y9)):=by kernel_rfl
theorem P7 (fA i7 iA jA aA bA cA dA eA gA) (Kb4 Kb6:ae U El):ct7 Kb4 Kb6 (fr7 fA i7 iA jA aA bA cA dA eA gA)=sh7 fA i7 iA jA aA bA cA dA eA gA (fun y0 y1 y2 y3 y4 y5 y6 y7 y8 y9=>Kb6 (fr6 y0 y1 y2 y3 y4 y5 y6 y7 y8 y9)):=by kernel_rfl
noncomputable def f4 (k2:Y2) (fA:List Bool) (i7:Int) (aA:List Work) (bA:Int) (cA:List Slot) (dA:Int) (eA:Bool) (gA:List Slot):R:=sh4 fA i7 aA bA cA dA eA gA k2
noncomputable def f7 (k2:Y2) (k6:Y6) (fA:List Bool) (i7:Int) (iA:List Bool) (jA:Int) (aA:List Work) (bA:Int) (cA:List Slot) (dA:Int) (eA:Bool) (gA:List Slot):R:=sh7 fA i7 iA jA aA bA cA dA eA gA k6
noncomputable def f6 (k2:Y2):Nat→Y6
  | 0=>fun _ _ _ _ _ _ _ _ _ _=>none
  | n+1=>fun fA i7 iA jA aA bA cA dA eA gA=>sh6 fA i7 iA jA aA bA cA dA eA gA (f4 k2) (f7 k2 (f6 k2 n))
noncomputable def f5 (k2:Y2) (fA:List Bool) (i7:Int) (iA:List Bool) (jA:Int) (aA:List Work) (bA:Int) (cA:List Slot) (dA:Int) (eA:Bool) (gA:List Slot):R:=sh5 fA i7 iA jA aA bA cA dA eA gA (f6 k2 100000)
noncomputable def f3 (k2:Y2) (fA:List Bool) (i7:Int) (aA:List Work) (bA:Int) (cA:List Slot) (dA:Int) (eA:Bool) (gA:List Slot):R:=sh3 fA i7 aA bA cA dA eA gA (f5 k2)
noncomputable def f2:Nat→Y2
  | 0=>fun _ _ _ _ _ _ _ _=>none
  | n+1=>fun fA i7 aA bA cA dA eA gA=>sh2 fA i7 aA bA cA dA eA gA (f3 (f2 n))
noncomputable def f1 (fA:List Bool) (aA:List Work) (bA:Int) (cA:List Slot) (dA:Int) (eA:Bool) (gA:List Slot):R:=sh1 fA aA bA cA dA eA gA (f2 100000)
noncomputable def f0 (dn:List Bool) (l:List Work) (left:Int) (cost:Int) (any_:Bool) (pl:List Slot) (pn:List Slot):R:=sh0 dn l left cost any_ pl pn f1
theorem T4 (KL2:ae U El) (k2:Y2) (h2:∀ fA i7 aA bA cA dA eA gA,KL2 (fr2 fA i7 aA bA cA dA eA gA)=k2 fA i7 aA bA cA dA eA gA) (fA i7 aA bA cA dA eA gA):(hid (ct4 KL2)) (fr4 fA i7 aA bA cA dA eA gA)=f4 k2 fA i7 aA bA cA dA eA gA:=by
  refine (congrFun (am _) _).trans <| (P4 fA i7 aA bA cA dA eA gA KL2).trans ?_
  show _=sh4 fA i7 aA bA cA dA eA gA k2
  simp only [h2]
theorem T7 (KL2:ae U El) (KL6:ae U El) (k2:Y2) (k6:Y6) (h2:∀ fA i7 aA bA cA dA eA gA,KL2 (fr2 fA i7 aA bA cA dA eA gA)=k2 fA i7 aA bA cA dA eA gA) (h6:∀ fA i7 iA jA aA bA cA dA eA gA,KL6 (fr6 fA i7 iA jA aA bA cA dA eA gA)=k6 fA i7 iA jA aA bA cA dA eA gA) (fA i7 iA jA aA bA cA dA eA gA):(hid (ct7 (hid (ct4 KL2)) KL6)) (fr7 fA i7 iA jA aA bA cA dA eA gA)=f7 k2 k6 fA i7 iA jA aA bA cA dA eA gA:=by
  refine (congrFun (am _) _).trans <| (P7 fA i7 iA jA aA bA cA dA eA gA (hid (ct4 KL2)) KL6).trans ?_
  show _=sh7 fA i7 iA jA aA bA cA dA eA gA k6
  simp only [h6]
theorem T6 (KL2:ae U El) (k2:Y2) (h2:∀ fA i7 aA bA cA dA eA gA,KL2 (fr2 fA i7 aA bA cA dA eA gA)=k2 fA i7 aA bA cA dA eA gA):∀ (n:Nat),∀ fA i7 iA jA aA bA cA dA eA gA,it6 (hid (ct4 KL2)) n (fr6 fA i7 iA jA aA bA cA dA eA gA)=f6 k2 n fA i7 iA jA aA bA cA dA eA gA:=by
  intro n
  induction n with
  | zero=>intros; rfl
  | succ n ih =>
    intro fA i7 iA jA aA bA cA dA eA gA
    refine (P6 fA i7 iA jA aA bA cA dA eA gA (hid (ct4 KL2)) (it6 (hid (ct4 KL2)) n)).trans ?_
    show _=sh6 fA i7 iA jA aA bA cA dA eA gA (f4 k2) (f7 k2 (f6 k2 n))
    simp only [T4 KL2 k2 h2,T7 KL2 (it6 (hid (ct4 KL2)) n) k2 (f6 k2 n) h2 ih]
theorem H6 (KL2:ae U El) (k2:Y2) (h2:∀ fA i7 aA bA cA dA eA gA,KL2 (fr2 fA i7 aA bA cA dA eA gA)=k2 fA i7 aA bA cA dA eA gA) (fA i7 iA jA aA bA cA dA eA gA):hid (it6 (hid (ct4 KL2)) 100000) (fr6 fA i7 iA jA aA bA cA dA eA gA)=f6 k2 100000 fA i7 iA jA aA bA cA dA eA gA:=(congrFun (am _) _).trans (T6 KL2 k2 h2 100000 fA i7 iA jA aA bA cA dA eA gA)
theorem T5 (KL2:ae U El) (k2:Y2) (h2:∀ fA i7 aA bA cA dA eA gA,KL2 (fr2 fA i7 aA bA cA dA eA gA)=k2 fA i7 aA bA cA dA eA gA) (fA i7 iA jA aA bA cA dA eA gA):(hid (ct5 (hid (ct4 KL2)))) (fr5 fA i7 iA jA aA bA cA dA eA gA)=f5 k2 fA i7 iA jA aA bA cA dA eA gA:=by
  refine (congrFun (am _) _).trans <| (P5 fA i7 iA jA aA bA cA dA eA gA (hid (ct4 KL2))).trans ?_
  show _=sh5 fA i7 iA jA aA bA cA dA eA gA (f6 k2 100000)
  simp only [H6 KL2 k2 h2]
theorem T3 (KL2:ae U El) (k2:Y2) (h2:∀ fA i7 aA bA cA dA eA gA,KL2 (fr2 fA i7 aA bA cA dA eA gA)=k2 fA i7 aA bA cA dA eA gA) (fA i7 aA bA cA dA eA gA):(hid (ct3 KL2)) (fr3 fA i7 aA bA cA dA eA gA)=f3 k2 fA i7 aA bA cA dA eA gA:=by
  refine (congrFun (am _) _).trans <| (P3 fA i7 aA bA cA dA eA gA KL2).trans ?_
  show _=sh3 fA i7 aA bA cA dA eA gA (f5 k2)
  simp only [T5 KL2 k2 h2]
theorem T2:∀ (n:Nat),∀ fA i7 aA bA cA dA eA gA,it2 n (fr2 fA i7 aA bA cA dA eA gA)=f2 n fA i7 aA bA cA dA eA gA:=by
  intro n
  induction n with
  | zero=>intros; rfl
  | succ n ih =>
    intro fA i7 aA bA cA dA eA gA
    refine (P2 fA i7 aA bA cA dA eA gA (it2 n)).trans ?_
    show _=sh2 fA i7 aA bA cA dA eA gA (f3 (f2 n))
    simp only [T3 (it2 n) (f2 n) ih]
theorem H2 (fA i7 aA bA cA dA eA gA):hid (it2 100000) (fr2 fA i7 aA bA cA dA eA gA)=f2 100000 fA i7 aA bA cA dA eA gA:=(congrFun (am _) _).trans (T2 100000 fA i7 aA bA cA dA eA gA)
theorem T1 (fA aA bA cA dA eA gA):(hid ct1) (fr1 fA aA bA cA dA eA gA)=f1 fA aA bA cA dA eA gA:=by
  refine (congrFun (am _) _).trans <| (P1 fA aA bA cA dA eA gA).trans ?_
  show _=sh1 fA aA bA cA dA eA gA (f2 100000)
  simp only [H2]
theorem T0 (dn l left cost any_ pl pn):ak X bd (.seq none .d (.seq none .d (.seq (some nm1) .d (.seq none .d (.block (.loop nm2 (.seq (some nm3) .d (.seq (some nm4) (.block (.seq none .d (.seq none .d (.seq (some nm5) .d (.block (.loop nm6 (.seq (some nm7) .d (.seq none (.block (.region [(3,112),(23,114),(25,1000000000),(25,134),(25,1000000002)])) .d)))))))) .d)))))))) (fr0 dn l left cost any_ pl pn) RR (fun _ _=>none) RR=f0 dn l left cost any_ pl pn:=by
  refine (P0 dn l left cost any_ pl pn).trans ?_
  show _=sh0 dn l left cost any_ pl pn f1
  simp only [T1]
theorem run (dn l left cost any_ pl pn):jy X bd (.seq none .d (.seq none .d (.seq (some nm1) .d (.seq none .d (.block (.loop nm2 (.seq (some nm3) .d (.seq (some nm4) (.block (.seq none .d (.seq none .d (.seq (some nm5) .d (.block (.loop nm6 (.seq (some nm7) .d (.seq none (.block (.region [(3,112),(23,114),(25,1000000000),(25,134),(25,1000000002)])) .d)))))))) .d)))))))) nmR [] [(1000000000,(.box 1000000000 [(.lst .work l),(.int .i64 left),(.ful 1000000002),(.int .i64 cost),(.bool any_)])),(1000000001,(.rows .slot pl)),(1000000002,(.rows .slot pn))] [(.ptr 1000000000 0),(.ful 1000000001),(.lst .bool dn)]=f0 dn l left cost any_ pl pn:=T0 dn l left cost any_ pl pn
theorem crewLoop (l : List Work) (pl : List Slot) (dn : List Bool) (h : lq l (BndF.n + 1) pl dn) (k2 : Y2) (q : Nat) (hq : q < l.length) (hr : bx l dn (q : Int) = true) : ∀ (n j : Nat) (s : Fx), (List.getD l q aa).wc.length < n + j → j ≤ (List.getD l q aa).wc.length →
    f6 k2 n dn (q:Int) (List.set dn q true) (j:Int) l s.left s.plan s.cost s.any_ pl=f4 k2 dn (q:Int) l (frC (fun pl' s'=>frm l BndF.n pl' (List.set dn q true) s') l pl (q:Int) ((List.getD l q aa).wc.drop j) s).left (frC (fun pl' s'=>frm l BndF.n pl' (List.set dn q true) s') l pl (q:Int) ((List.getD l q aa).wc.drop j) s).plan (frC (fun pl' s'=>frm l BndF.n pl' (List.set dn q true) s') l pl (q:Int) ((List.getD l q aa).wc.drop j) s).cost (frC (fun pl' s'=>frm l BndF.n pl' (List.set dn q true) s') l pl (q:Int) ((List.getD l q aa).wc.drop j) s).any_ pl:=by
  have hwc9:=((cq h.1).2 _ (List.getElem_mem hq)).2
  have hlen:pl.length≤12:=by obtain ⟨_,_,hl,sl,_,_,_,hc,_⟩:=h; omega
  intro n
  induction n with
  | zero=>intro j s h1 h2; omega
  | succ n ih =>
    intro j s h1 h2
    show sh6 dn (q:Int) (List.set dn q true) (j:Int) l s.left s.plan s.cost s.any_ pl (f4 k2) (f7 k2 (f6 k2 n))=_
    unfold sh6
    rw [aZ hq,cS,ac]
    by_cases hj:j < (List.getD l q aa).wc.length
    · rw [bw (show (j : Int) < Int.ofNat (List.getD l q aa).wc.length from Int.ofNat_lt.2 hj), cH, bl hj]
      simp only [frC]
      cases hlf:ile 0 s.left with
      | false=>rfl
      | true =>
        obtain ⟨g1,g2⟩:=kw h hq hr (List.getElem_mem hj)
        rw [cH,cond_true]
        show sh7 dn (q:Int) (List.set dn q true) (j:Int) l s.left s.plan s.cost s.any_ pl (f6 k2 n)=_
        unfold sh7
        have e1:∀ x:Slot,nle ((([]:List Slot)++pl).length+[x].length) 9223372036854775807=true:=fun x=>bC (by simp<;>omega)
        have e2:∀ x:Slot,nle (((([]:List Slot)++pl).length+[x].length) * 24) 140737488355328=true:=fun x=>bC (by simp<;>omega)
        rw [bC (show (([]:List Slot).length+pl.length) * 24≤140737488355328 by simp<;>omega),bC (show ([]:List Slot).length+pl.length≤9223372036854775807 by simp<;>omega),aZ hq,ac,aZ hj,ac,g1,e1,e2,al hj]
        have hP:frP l BndF.n ((([]:List Slot)++pl)++[ch l pl (q:Int) (List.getD l q aa).wc[j]]) (List.set dn q true)=true:=by
          rw [List.nil_append]
          exact frP_iff.2 g2
        rw [hP,bo j (by rw [al hq] at hj; omega)]
        have hih:=ih (j+1) (frm l BndF.n ((([]:List Slot)++pl)++[ch l pl (q:Int) (List.getD l q aa).wc[j]]) (List.set dn q true) s) (by omega) hj
        rw [List.nil_append] at hih ⊢
        exact hih
    · have : j = (List.getD l q aa).wc.length := by omega
      subst this
      rw [bp (show ¬ (((List.getD l q aa).wc.length:Nat):Int) < Int.ofNat (List.getD l q aa).wc.length from Int.lt_irrefl _),List.drop_length,bV]
      rfl
theorem workLoop (l : List Work) (pl : List Slot) (dn : List Bool) (h : lq l (BndF.n + 1) pl dn) : ∀ (m k fuel : Nat) (s : Fx), k + m = l.length → m < fuel →
    f2 fuel dn (bM l dn (k:Int)) l s.left s.plan s.cost s.any_ pl=rj (frI (fun k pl' s'=>frm l BndF.n pl' (List.set dn k true) s') l pl dn m k s) l:=by
  have hO:=bX h.1 (aR h.2.1).good
  have hl:=h.2.2.1
  have hdl:dn.length=l.length:=by obtain ⟨_,_,_,sl,hg,_⟩:=h; exact hg.good.1
  have hb:Nat.beq dn.length l.length=true:=by rw [hdl]; exact Nat.beq_refl _
  intro m
  induction m with
  | zero =>
    intro k fuel s hk hf
    obtain ⟨n,rfl⟩:∃ n,fuel=n+1:=⟨fuel - 1,by omega⟩
    obtain rfl:k=l.length:=by omega
    rw [ku]
    show sh2 dn (-1) l s.left s.plan s.cost s.any_ pl (f3 (f2 n))=_
    unfold sh2
    rw [gC (show ¬ (0:Int) ≤ -1 by omega),bV]
    rfl
  | succ m ih =>
    intro k fuel s hk hf
    have hkl:k < l.length:=by omega
    obtain ⟨n,rfl⟩:∃ n,fuel=n+1:=⟨fuel - 1,by omega⟩
    rw [jS hkl]
    simp only [frI]
    cases hr:bx l dn (k:Int) with
    | false =>
      rw [cond_false,cond_false]
      exact ih (k+1) (n+1) s (by omega) (by omega)
    | true =>
      rw [cond_true,cond_true]
      show sh2 dn (k:Int) l s.left s.plan s.cost s.any_ pl (f3 (f2 n))=_
      unfold sh2
      rw [bD (show (0:Int)≤(k:Int) by omega),cH]
      cases hlf:ile 0 s.left with
      | false=>rfl
      | true =>
        rw [cH,cond_true]
        have hkd:k < dn.length:=by omega
        show sh3 dn (k:Int) l s.left s.plan s.cost s.any_ pl (f5 (f2 n))=_
        unfold sh3
        rw [List.nil_append,bC (show (([]:List Bool).length+dn.length) * 1≤140737488355328 by simp; omega),bC (show ([]:List Bool).length+dn.length≤9223372036854775807 by simp<;>omega),aZ hkd,ac,eb hkd]
        have hwc9:=((cq h.1).2 _ (List.getElem_mem hkl)).2
        show f6 (f2 n) 100000 dn (k:Int) (List.set dn k true) ((0:Nat):Int) l s.left s.plan s.cost s.any_ pl=_
        rw [crewLoop l pl dn h (f2 n) k hkl hr 100000 0 s (by rw [al hkl]; omega) (by omega),List.drop_zero]
        show sh4 dn (k:Int) l _ _ _ _ pl (f2 n)=_
        unfold sh4
        rw [bo k (by omega),hO,hb,bD (show (0:Int)≤((k+1:Nat):Int) by omega)]
        exact ih (k+1) n _ (by omega) (by omega)
theorem f0_eq (dn : List Bool) (l : List Work) (left cost : Int) (any_ : Bool) (pl pn : List Slot) (h : frP l (Nat.succ BndF.n) pl dn = true) : f0 dn l left cost any_ pl pn = rj (frm l (Nat.succ BndF.n) pl dn ⟨left, pn, cost, any_⟩) l := by
  have hF:=frP_iff.1 h
  rw [Nat.succ_eq_add_one] at *
  have hall:=qv hF
  obtain ⟨hv,hval,hl,sl,hg,hJ,hR,hcnt,hn⟩:=frP_iff.1 h
  have hO:=bX hv (aR hval).good
  show sh0 dn l left cost any_ pl pn f1=_
  unfold sh0
  simp only [frm]
  cases hlt:ilt (IntKind.wrap .i64 (left - 1)) 0 with
  | true=>rfl
  | false =>
    rw [bV,cond_false]
    cases hb:(Int.ofNat pl.length == Int.ofNat l.length) with
    | true =>
      have hlen:pl.length=l.length:=Int.ofNat.inj (beq_iff_eq.1 hb)
      have hco:d3 l pl=true:=by
        simp only [d3,Bool.and_eq_true]
        exact ⟨bC (by omega),by rw [hlen]; exact Nat.beq_refl _,List.all_eq_true.2 hall⟩
      have ho:List.all pl (fun s=>inb (Slot.sw s) pl.length)=true:=List.all_eq_true.2 fun s hs=>by rw [hlen]; exact hall s hs
      rw [hco,bC (show pl.length≤90000 by omega),ho]
      cases any_
      · rfl
      · cases ilt (b8 l pl) cost<;>rfl
    | false =>
      rw [bV,cond_false]
      show sh1 dn l (IntKind.wrap .i64 (left - 1)) pn cost any_ pl (f2 100000)=_
      unfold sh1
      rw [hO,show Nat.beq dn.length l.length=true by rw [hg.good.1]; exact Nat.beq_refl _,show ile 0 (0:Int)=true from rfl]
      exact workLoop l pl dn hF l.length 0 100000 ⟨IntKind.wrap .i64 (left - 1),pn,cost,any_⟩ (by omega) (by omega)
theorem ok:CtxOk Try.prog X:=aU tab (spC rready.spOk (spC rplace.spOk (spC rordered.spOk (spC rcost.spOk spN)))) (dpC ⟨fromR.spOk,fromR.spDet⟩ dpN)
theorem okM:MOk Try.prog X:=fun g sp h=>by cases h
theorem spec (dn:List Bool) (l:List Work) (left:Int) (cost:Int) (any_:Bool) (pl:List Slot) (pn:List Slot) (h:(frP l (Nat.succ BndF.n) pl dn)=true):MCall Try.prog E 48 [(.ptr 1000000000 0),(.ful 1000000001),(.lst .bool dn)] [(1000000000,(.box 1000000000 [(.lst .work l),(.int .i64 left),(.ful 1000000002),(.int .i64 cost),(.bool any_)])),(1000000001,(.rows .slot pl)),(1000000002,(.rows .slot pn))] (.tup []) [(1000000000,(.box 1000000000 [(.lst .work l),(.int .i64 (Fx.left (frm l (Nat.succ BndF.n) pl dn (⟨left,pn,cost,any_⟩:Fx)))),(.ful 1000000002),(.int .i64 (Fx.cost (frm l (Nat.succ BndF.n) pl dn (⟨left,pn,cost,any_⟩:Fx)))),(.bool (Fx.any_ (frm l (Nat.succ BndF.n) pl dn (⟨left,pn,cost,any_⟩:Fx))))])),(1000000002,(.rows .slot (Fx.plan (frm l (Nat.succ BndF.n) pl dn (⟨left,pn,cost,any_⟩:Fx)))))] :=
  bG ok okM Try.func48 (by kernel_rfl) (by kernel_rfl) (by kernel_rfl) (by show 3≤137; decide) ((run dn l left cost any_ pl pn).trans (f0_eq dn l left cost any_ pl pn h))
noncomputable def sp:MSp U El:=fun args hs k=>match args,hs with
  | [.ptr q0 0,.ful q1,.lst .bool dn],[(q2,.box q3 [.lst .work l,.int .i64 left,.ful q4,.int .i64 cost,.bool any_]),(q5,.rows .slot pl),(q6,.rows .slot pn)]=>chk (Nat.beq q0 1000000000&&(Nat.beq q1 1000000001&&(Nat.beq q2 1000000000&&(Nat.beq q3 1000000000&&(Nat.beq q4 1000000002&&(Nat.beq q5 1000000001&&(Nat.beq q6 1000000002&&true))))))) (chk (frP l (Nat.succ BndF.n) pl dn) (k (.tup []) [(1000000000,(.box 1000000000 [(.lst .work l),(.int .i64 (Fx.left (frm l (Nat.succ BndF.n) pl dn (⟨left,pn,cost,any_⟩:Fx)))),(.ful 1000000002),(.int .i64 (Fx.cost (frm l (Nat.succ BndF.n) pl dn (⟨left,pn,cost,any_⟩:Fx)))),(.bool (Fx.any_ (frm l (Nat.succ BndF.n) pl dn (⟨left,pn,cost,any_⟩:Fx))))])),(1000000002,(.rows .slot (Fx.plan (frm l (Nat.succ BndF.n) pl dn (⟨left,pn,cost,any_⟩:Fx)))))]))
  | _,_=>none
theorem spOk:cJ Try.prog E 48 sp:=⟨Try.call48,fun args hs k r h=>by
  unfold sp at h
  split at h
  · obtain ⟨hq, hA⟩ := ab h
    clear h
    simp only [Bool.and_eq_true] at hq
    obtain ⟨e0,e1,e2,e3,e4,e5,e6,_⟩:=hq
    cases Nat.eq_of_beq_eq_true e0
    cases Nat.eq_of_beq_eq_true e1
    cases Nat.eq_of_beq_eq_true e2
    cases Nat.eq_of_beq_eq_true e3
    cases Nat.eq_of_beq_eq_true e4
    cases Nat.eq_of_beq_eq_true e5
    cases Nat.eq_of_beq_eq_true e6
    obtain ⟨h1,hB⟩:=ab hA
    exact ⟨_,_,spec _ _ _ _ _ _ _ h1,hB⟩
  · cases h⟩
theorem spDet:∀ args hs,∃ oo:Option (AV U El×ar U El),∀ k,sp args hs k=oo.bind fun p=>k p.1 p.2:=fun args hs=>by
  unfold sp
  split
  · exact aO (aO ⟨some (_,_),fun _=>rfl⟩)
  · exact ⟨none,fun _=>rfl⟩
end fromL
namespace fromN
noncomputable def bd:Code:=(Try.f48.body).getD .skip
noncomputable def X:Ctx U El:=⟨E,tds,zeros,eqs,aG [(41,rready.sp),(59,rplace.sp),(60,rordered.sp),(62,rcost.sp)],100000,137,aD [(48,fromR.sp)],fun _=>none⟩
noncomputable def nmR:Norm U:=⟨[],[],[1000000000,1000000002],[],[(1000000000,2,.slot,1000000002)],[],[]⟩
noncomputable def RR:ae U El:=fun st=>aM nmR st (dI [])
noncomputable def nm1:Norm U:=⟨[],[0,1,2],[1000000000,1000000002,1000000001],[],[(1000000000,2,.slot,1000000002)],[],[(1000000000,0,.work)]⟩
noncomputable def nm2:Norm U:=⟨[],[0,1,2,7],[1000000000,1000000002,1000000001],[],[(1000000000,2,.slot,1000000002)],[],[(1000000000,0,.work)]⟩
noncomputable def nm3:Norm U:=⟨[],[0,1,2,7],[1000000000,1000000002,1000000001],[],[(1000000000,2,.slot,1000000002)],[],[(1000000000,0,.work)]⟩
noncomputable def nm4:Norm U:=⟨[],[0,1,2,7],[1000000000,1000000002,1000000001],[],[(1000000000,2,.slot,1000000002)],[],[(1000000000,0,.work)]⟩
noncomputable def nm5:Norm U:=⟨[],[0,1,2,7,8,9],[1000000000,1000000002,1000000001],[(8,.bool)],[(1000000000,2,.slot,1000000002)],[],[(1000000000,0,.work)]⟩
noncomputable def nm6:Norm U:=⟨[],[0,1,2,7,8,9],[1000000000,1000000002,1000000001],[],[(1000000000,2,.slot,1000000002)],[],[(1000000000,0,.work)]⟩
noncomputable def nm7:Norm U:=⟨[],[0,1,2,7,8,9],[1000000000,1000000002,1000000001],[],[(1000000000,2,.slot,1000000002)],[],[(1000000000,0,.work)]⟩
abbrev Y1:=(List Work)→Int→(List Slot)→Int→Bool→(List Bool)→R
abbrev Y2:=Int→(List Work)→Int→(List Slot)→Int→Bool→(List Bool)→R
abbrev Y3:=Int→(List Work)→Int→(List Slot)→Int→Bool→(List Bool)→R
abbrev Y4:=Int→(List Work)→Int→(List Slot)→Int→Bool→(List Bool)→R
abbrev Y5:=Int→(List Bool)→Int→(List Work)→Int→(List Slot)→Int→Bool→(List Bool)→R
abbrev Y6:=Int→(List Bool)→Int→(List Work)→Int→(List Slot)→Int→Bool→(List Bool)→R
abbrev Y7:=Int→(List Bool)→Int→(List Work)→Int→(List Slot)→Int→Bool→(List Bool)→R
noncomputable def fr0 (l:List Work) (left:Int) (cost:Int) (any_:Bool) (dn:List Bool) (pn:List Slot):St U El:=⟨[(0,(.ptr 1000000000 0)),(1,.nils),(2,(.ful 1000000001))],[(1000000000,(.box 1000000000 [(.lst .work l),(.int .i64 left),(.ful 1000000002),(.int .i64 cost),(.bool any_)])),(1000000001,(.rows .bool dn)),(1000000002,(.rows .slot pn))]⟩
noncomputable def fr1 (aA:List Work) (bA:Int) (cA:List Slot) (dA:Int) (eA:Bool) (gA:List Bool):St U El:=⟨[(0,(.ptr 1000000000 0)),(1,.nils),(2,(.ful 1000000001))],[(1000000000,(.box 1000000000 [(.lst .work aA),(.int .i64 bA),(.ful 1000000002),(.int .i64 dA),(.bool eA)])),(1000000002,(.rows .slot cA)),(1000000001,(.rows .bool gA))]⟩
noncomputable def fr2 (i7:Int) (aA:List Work) (bA:Int) (cA:List Slot) (dA:Int) (eA:Bool) (gA:List Bool):St U El:=⟨[(0,(.ptr 1000000000 0)),(1,.nils),(2,(.ful 1000000001)),(7,(.int .i64 i7))],[(1000000000,(.box 1000000000 [(.lst .work aA),(.int .i64 bA),(.ful 1000000002),(.int .i64 dA),(.bool eA)])),(1000000002,(.rows .slot cA)),(1000000001,(.rows .bool gA))]⟩
noncomputable def fr3 (i7:Int) (aA:List Work) (bA:Int) (cA:List Slot) (dA:Int) (eA:Bool) (gA:List Bool):St U El:=⟨[(0,(.ptr 1000000000 0)),(1,.nils),(2,(.ful 1000000001)),(7,(.int .i64 i7))],[(1000000000,(.box 1000000000 [(.lst .work aA),(.int .i64 bA),(.ful 1000000002),(.int .i64 dA),(.bool eA)])),(1000000002,(.rows .slot cA)),(1000000001,(.rows .bool gA))]⟩
noncomputable def fr4 (i7:Int) (aA:List Work) (bA:Int) (cA:List Slot) (dA:Int) (eA:Bool) (gA:List Bool):St U El:=⟨[(0,(.ptr 1000000000 0)),(1,.nils),(2,(.ful 1000000001)),(7,(.int .i64 i7))],[(1000000000,(.box 1000000000 [(.lst .work aA),(.int .i64 bA),(.ful 1000000002),(.int .i64 dA),(.bool eA)])),(1000000002,(.rows .slot cA)),(1000000001,(.rows .bool gA))]⟩
noncomputable def fr5 (i7:Int) (iA:List Bool) (jA:Int) (aA:List Work) (bA:Int) (cA:List Slot) (dA:Int) (eA:Bool) (gA:List Bool):St U El:=⟨[(0,(.ptr 1000000000 0)),(1,.nils),(2,(.ful 1000000001)),(7,(.int .i64 i7)),(8,(.lst .bool iA)),(9,(.int .i64 jA))],[(1000000000,(.box 1000000000 [(.lst .work aA),(.int .i64 bA),(.ful 1000000002),(.int .i64 dA),(.bool eA)])),(1000000002,(.rows .slot cA)),(1000000001,(.rows .bool gA))]⟩
noncomputable def fr6 (i7:Int) (iA:List Bool) (jA:Int) (aA:List Work) (bA:Int) (cA:List Slot) (dA:Int) (eA:Bool) (gA:List Bool):St U El:=⟨[(0,(.ptr 1000000000 0)),(1,.nils),(2,(.ful 1000000001)),(7,(.int .i64 i7)),(8,(.lst .bool iA)),(9,(.int .i64 jA))],[(1000000000,(.box 1000000000 [(.lst .work aA),(.int .i64 bA),(.ful 1000000002),(.int .i64 dA),(.bool eA)])),(1000000002,(.rows .slot cA)),(1000000001,(.rows .bool gA))]⟩
noncomputable def fr7 (i7:Int) (iA:List Bool) (jA:Int) (aA:List Work) (bA:Int) (cA:List Slot) (dA:Int) (eA:Bool) (gA:List Bool):St U El:=⟨[(0,(.ptr 1000000000 0)),(1,.nils),(2,(.ful 1000000001)),(7,(.int .i64 i7)),(8,(.lst .bool iA)),(9,(.int .i64 jA))],[(1000000000,(.box 1000000000 [(.lst .work aA),(.int .i64 bA),(.ful 1000000002),(.int .i64 dA),(.bool eA)])),(1000000002,(.rows .slot cA)),(1000000001,(.rows .bool gA))]⟩
noncomputable def sh0 (l:List Work) (left:Int) (cost:Int) (any_:Bool) (dn:List Bool) (pn:List Slot) (k1:Y1):R :=
  ah (ilt (IntKind.wrap .i64 (left - (1:Int))) (0:Int)) (some ((.tup []),[(1000000000,(.box 1000000000 [(.lst .work l),(.int .i64 (IntKind.wrap .i64 (left - (1:Int)))),(.ful 1000000002),(.int .i64 cost),(.bool any_)])),(1000000002,(.rows .slot pn))])) (ah ((Int.ofNat 0) == (Int.ofNat (List.length l))) (chk (d3 l ([]:List Slot)) (ah (!any_) (chk ((nle (List.length ([]:List Slot)) 90000&&List.all ([]:List Slot) (fun s=>inb (Slot.sw s) (List.length ([]:List Slot))))) (some ((.tup []),[(1000000000,(.box 1000000000 [(.lst .work l),(.int .i64 (IntKind.wrap .i64 (left - (1:Int)))),(.ful 1000000002),(.int .i64 (b8 l ([]:List Slot))),(.bool true)])),(1000000002,(.rows .slot (j9 ([]:List Slot))))]))) (ah (ilt (b8 l ([]:List Slot)) cost) (chk ((nle (List.length ([]:List Slot)) 90000&&List.all ([]:List Slot) (fun s=>inb (Slot.sw s) (List.length ([]:List Slot))))) (some ((.tup []),[(1000000000,(.box 1000000000 [(.lst .work l),(.int .i64 (IntKind.wrap .i64 (left - (1:Int)))),(.ful 1000000002),(.int .i64 (b8 l ([]:List Slot))),(.bool true)])),(1000000002,(.rows .slot (j9 ([]:List Slot))))]))) (some ((.tup []),[(1000000000,(.box 1000000000 [(.lst .work l),(.int .i64 (IntKind.wrap .i64 (left - (1:Int)))),(.ful 1000000002),(.int .i64 cost),(.bool any_)])),(1000000002,(.rows .slot pn))]))))) (k1 l (IntKind.wrap .i64 (left - (1:Int))) pn cost any_ dn))
noncomputable def sh1 (aA:List Work) (bA:Int) (cA:List Slot) (dA:Int) (eA:Bool) (gA:List Bool) (k2:Y2):R :=
  chk ((okO aA&&(Nat.beq (List.length gA) (List.length aA)&&ile 0 (0:Int)))) (k2 (bM aA gA (0:Int)) aA bA cA dA eA gA)
noncomputable def sh2 (i7:Int) (aA:List Work) (bA:Int) (cA:List Slot) (dA:Int) (eA:Bool) (gA:List Bool) (k3:Y3):R :=
  ah (ile (0:Int) i7) (ah (ile (0:Int) bA) (k3 i7 aA bA cA dA eA gA) (some ((.tup []),[(1000000000,(.box 1000000000 [(.lst .work aA),(.int .i64 bA),(.ful 1000000002),(.int .i64 dA),(.bool eA)])),(1000000002,(.rows .slot cA))]))) (some ((.tup []),[(1000000000,(.box 1000000000 [(.lst .work aA),(.int .i64 bA),(.ful 1000000002),(.int .i64 dA),(.bool eA)])),(1000000002,(.rows .slot cA))]))
noncomputable def sh3 (i7:Int) (aA:List Work) (bA:Int) (cA:List Slot) (dA:Int) (eA:Bool) (gA:List Bool) (k5:Y5):R :=
  chk (nle ((List.length ([]:List Bool)+List.length gA) * 1) 140737488355328&&nle (List.length ([]:List Bool)+List.length gA) 9223372036854775807) (chk (inb i7 (List.length (([]:List Bool)++gA))) (chk (nlt (Int.toNat i7) (List.length (([]:List Bool)++gA))&&true) (k5 i7 (List.set (([]:List Bool)++gA) (Int.toNat i7) true) (0:Int) aA bA cA dA eA gA)))
noncomputable def sh4 (i7:Int) (aA:List Work) (bA:Int) (cA:List Slot) (dA:Int) (eA:Bool) (gA:List Bool) (k2:Y2):R :=
  chk ((okO aA&&(Nat.beq (List.length gA) (List.length aA)&&ile 0 (IntKind.wrap .i64 (i7+(1:Int)))))) (k2 (bM aA gA (IntKind.wrap .i64 (i7+(1:Int)))) aA bA cA dA eA gA)
noncomputable def sh5 (i7:Int) (iA:List Bool) (jA:Int) (aA:List Work) (bA:Int) (cA:List Slot) (dA:Int) (eA:Bool) (gA:List Bool) (k6:Y6):R :=
  k6 i7 iA jA aA bA cA dA eA gA
noncomputable def sh6 (i7:Int) (iA:List Bool) (jA:Int) (aA:List Work) (bA:Int) (cA:List Slot) (dA:Int) (eA:Bool) (gA:List Bool) (k4:Y4) (k7:Y7):R :=
  chk (inb i7 (List.length aA)) (ah (ilt jA (Int.ofNat (List.length ((List.getD aA (Int.toNat i7) aa).wc)))) (ah (ile (0:Int) bA) (k7 i7 iA jA aA bA cA dA eA gA) (k4 i7 aA bA cA dA eA gA)) (k4 i7 aA bA cA dA eA gA))
noncomputable def sh7 (i7:Int) (iA:List Bool) (jA:Int) (aA:List Work) (bA:Int) (cA:List Slot) (dA:Int) (eA:Bool) (gA:List Bool) (k6:Y6):R :=
  chk (nle ((List.length ([]:List Slot)+List.length ([]:List Slot)) * 24) 140737488355328&&nle (List.length ([]:List Slot)+List.length ([]:List Slot)) 9223372036854775807) (chk (inb i7 (List.length aA)) (chk (inb jA (List.length ((List.getD aA (Int.toNat i7) aa).wc))) (chk (okP aA ([]:List Slot) i7) (chk (nle ((List.length (([]:List Slot)++([]:List Slot))+List.length ([(ch aA ([]:List Slot) i7 (List.getD ((List.getD aA (Int.toNat i7) aa).wc) (Int.toNat jA) d_int))]:List Slot)) * 24) 140737488355328&&nle (List.length (([]:List Slot)++([]:List Slot))+List.length ([(ch aA ([]:List Slot) i7 (List.getD ((List.getD aA (Int.toNat i7) aa).wc) (Int.toNat jA) d_int))]:List Slot)) 9223372036854775807) (chk (frP aA BndF.n ((([]:List Slot)++([]:List Slot))++([(ch aA ([]:List Slot) i7 (List.getD ((List.getD aA (Int.toNat i7) aa).wc) (Int.toNat jA) d_int))]:List Slot)) iA) (k6 i7 iA (IntKind.wrap .i64 (jA+(1:Int))) aA (Fx.left (frm aA BndF.n ((([]:List Slot)++([]:List Slot))++([(ch aA ([]:List Slot) i7 (List.getD ((List.getD aA (Int.toNat i7) aa).wc) (Int.toNat jA) d_int))]:List Slot)) iA (⟨bA,cA,dA,eA⟩:Fx))) (Fx.plan (frm aA BndF.n ((([]:List Slot)++([]:List Slot))++([(ch aA ([]:List Slot) i7 (List.getD ((List.getD aA (Int.toNat i7) aa).wc) (Int.toNat jA) d_int))]:List Slot)) iA (⟨bA,cA,dA,eA⟩:Fx))) (Fx.cost (frm aA BndF.n ((([]:List Slot)++([]:List Slot))++([(ch aA ([]:List Slot) i7 (List.getD ((List.getD aA (Int.toNat i7) aa).wc) (Int.toNat jA) d_int))]:List Slot)) iA (⟨bA,cA,dA,eA⟩:Fx))) (Fx.any_ (frm aA BndF.n ((([]:List Slot)++([]:List Slot))++([(ch aA ([]:List Slot) i7 (List.getD ((List.getD aA (Int.toNat i7) aa).wc) (Int.toNat jA) d_int))]:List Slot)) iA (⟨bA,cA,dA,eA⟩:Fx))) gA))))))
noncomputable def it2 (n:Nat):ae U El:=bL nm2 (fun st' K'=>ak X (cdp [1,1,1,1,0,0] bd) (.seq (some nm3) .d (.seq (some nm4) (.block (.seq none .d (.seq none .d (.seq (some nm5) .d (.block (.loop nm6 (.seq (some nm7) .d (.seq none (.block (.region [(3,112),(23,114),(25,1000000000),(25,134),(25,1000000002)])) .d)))))))) .d)) st' K' (aw 0 RR (fun _ _=>none)) RR) n
noncomputable def it6 (Kb4:ae U El) (n:Nat):ae U El:=bL nm6 (fun st' K'=>ak X (cdp [1,1,1,1,0,0,1,0,0,1,1,1,0,0] bd) (.seq (some nm7) .d (.seq none (.block (.region [(3,112),(23,114),(25,1000000000),(25,134),(25,1000000002)])) .d)) st' K' (aw 2 (ap nm4 Kb4) (aw 1 (ap nm4 Kb4) (aw 0 RR (fun _ _=>none)))) RR) n
noncomputable def ct1:ae U El:=fun st=>ak X (cdp [1,1,1] bd) (.seq none .d (.block (.loop nm2 (.seq (some nm3) .d (.seq (some nm4) (.block (.seq none .d (.seq none .d (.seq (some nm5) .d (.block (.loop nm6 (.seq (some nm7) .d (.seq none (.block (.region [(3,112),(23,114),(25,1000000000),(25,134),(25,1000000002)])) .d)))))))) .d))))) st RR (fun _ _=>none) RR
noncomputable def ct3 (Kb2:ae U El):ae U El:=fun st=>ak X (cdp [1,1,1,1,0,0,1] bd) (.seq (some nm4) (.block (.seq none .d (.seq none .d (.seq (some nm5) .d (.block (.loop nm6 (.seq (some nm7) .d (.seq none (.block (.region [(3,112),(23,114),(25,1000000000),(25,134),(25,1000000002)])) .d)))))))) .d) st (ap nm2 Kb2) (aw 0 RR (fun _ _=>none)) RR
noncomputable def ct4 (Kb2:ae U El):ae U El:=fun st=>ak X (cdp [1,1,1,1,0,0,1,1] bd) .d st (ap nm2 Kb2) (aw 0 RR (fun _ _=>none)) RR
noncomputable def ct5 (Kb4:ae U El):ae U El:=fun st=>ak X (cdp [1,1,1,1,0,0,1,0,0,1,1,1] bd) (.block (.loop nm6 (.seq (some nm7) .d (.seq none (.block (.region [(3,112),(23,114),(25,1000000000),(25,134),(25,1000000002)])) .d)))) st (ap nm4 Kb4) (aw 1 (ap nm4 Kb4) (aw 0 RR (fun _ _=>none))) RR
noncomputable def ct7 (Kb4 Kb6:ae U El):ae U El:=fun st=>ak X (cdp [1,1,1,1,0,0,1,0,0,1,1,1,0,0,1] bd) (.seq none (.block (.region [(3,112),(23,114),(25,1000000000),(25,134),(25,1000000002)])) .d) st (ap nm6 Kb6) (aw 2 (ap nm4 Kb4) (aw 1 (ap nm4 Kb4) (aw 0 RR (fun _ _=>none)))) RR
theorem P0 (l left cost any_ dn pn):ak X (cdp [] bd) (.seq none .d (.seq none .d (.seq (some nm1) .d (.seq none .d (.block (.loop nm2 (.seq (some nm3) .d (.seq (some nm4) (.block (.seq none .d (.seq none .d (.seq (some nm5) .d (.block (.loop nm6 (.seq (some nm7) .d (.seq none (.block (.region [(3,112),(23,114),(25,1000000000),(25,134),(25,1000000002)])) .d)))))))) .d)))))))) (fr0 l left cost any_ dn pn) RR (fun _ _=>none) RR=sh0 l left cost any_ dn pn (fun y0 y1 y2 y3 y4 y5=>(hid ct1) (fr1 y0 y1 y2 y3 y4 y5)):=by kernel_rfl
theorem P1 (aA bA cA dA eA gA):ct1 (fr1 aA bA cA dA eA gA)=sh1 aA bA cA dA eA gA (fun y0 y1 y2 y3 y4 y5 y6=>(hid (it2 100000)) (fr2 y0 y1 y2 y3 y4 y5 y6)):=by kernel_rfl
theorem P2 (i7 aA bA cA dA eA gA) (Kb2:ae U El):ak X (cdp [1,1,1,1,0,0] bd) (.seq (some nm3) .d (.seq (some nm4) (.block (.seq none .d (.seq none .d (.seq (some nm5) .d (.block (.loop nm6 (.seq (some nm7) .d (.seq none (.block (.region [(3,112),(23,114),(25,1000000000),(25,134),(25,1000000002)])) .d)))))))) .d)) (fr2 i7 aA bA cA dA eA gA) (ap nm2 Kb2) (aw 0 RR (fun _ _=>none)) RR=sh2 i7 aA bA cA dA eA gA (fun y0 y1 y2 y3 y4 y5 y6=>(hid (ct3 Kb2)) (fr3 y0 y1 y2 y3 y4 y5 y6)):=by kernel_rfl
theorem P3 (i7 aA bA cA dA eA gA) (Kb2:ae U El):ct3 Kb2 (fr3 i7 aA bA cA dA eA gA)=sh3 i7 aA bA cA dA eA gA (fun y0 y1 y2 y3 y4 y5 y6 y7 y8=>(hid (ct5 (hid (ct4 Kb2)))) (fr5 y0 y1 y2 y3 y4 y5 y6 y7 y8)):=by kernel_rfl
theorem P4 (i7 aA bA cA dA eA gA) (Kb2:ae U El):ct4 Kb2 (fr4 i7 aA bA cA dA eA gA)=sh4 i7 aA bA cA dA eA gA (fun y0 y1 y2 y3 y4 y5 y6=>Kb2 (fr2 y0 y1 y2 y3 y4 y5 y6)):=by kernel_rfl
theorem P5 (i7 iA jA aA bA cA dA eA gA) (Kb4:ae U El):ct5 Kb4 (fr5 i7 iA jA aA bA cA dA eA gA)=sh5 i7 iA jA aA bA cA dA eA gA (fun y0 y1 y2 y3 y4 y5 y6 y7 y8=>(hid (it6 Kb4 100000)) (fr6 y0 y1 y2 y3 y4 y5 y6 y7 y8)):=by kernel_rfl
theorem P6 (i7 iA jA aA bA cA dA eA gA) (Kb4 Kb6:ae U El):ak X (cdp [1,1,1,1,0,0,1,0,0,1,1,1,0,0] bd) (.seq (some nm7) .d (.seq none (.block (.region [(3,112),(23,114),(25,1000000000),(25,134),(25,1000000002)])) .d)) (fr6 i7 iA jA aA bA cA dA eA gA) (ap nm6 Kb6) (aw 2 (ap nm4 Kb4) (aw 1 (ap nm4 Kb4) (aw 0 RR (fun _ _=>none)))) RR=sh6 i7 iA jA aA bA cA dA eA gA (fun y0 y1 y2 y3 y4 y5 y6=>Kb4 (fr4 y0 y1 y2 y3 y4 y5 y6)) (fun y0 y1 y2 y3 y4 y5 y6 y7 y8=>(hid (ct7 Kb4 Kb6)) (fr7 y0 y1 y2 y3 y4 y5 y6 y7 y8)):=by kernel_rfl
theorem P7 (i7 iA jA aA bA cA dA eA gA) (Kb4 Kb6:ae U El):ct7 Kb4 Kb6 (fr7 i7 iA jA aA bA cA dA eA gA)=sh7 i7 iA jA aA bA cA dA eA gA (fun y0 y1 y2 y3 y4 y5 y6 y7 y8=>Kb6 (fr6 y0 y1 y2 y3 y4 y5 y6 y7 y8)):=by kernel_rfl
noncomputable def f4 (k2:Y2) (i7:Int) (aA:List Work) (bA:Int) (cA:List Slot) (dA:Int) (eA:Bool) (gA:List Bool):R:=sh4 i7 aA bA cA dA eA gA k2
noncomputable def f7 (k2:Y2) (k6:Y6) (i7:Int) (iA:List Bool) (jA:Int) (aA:List Work) (bA:Int) (cA:List Slot) (dA:Int) (eA:Bool) (gA:List Bool):R:=sh7 i7 iA jA aA bA cA dA eA gA k6
noncomputable def f6 (k2:Y2):Nat→Y6
  | 0=>fun _ _ _ _ _ _ _ _ _=>none
  | n+1=>fun i7 iA jA aA bA cA dA eA gA=>sh6 i7 iA jA aA bA cA dA eA gA (f4 k2) (f7 k2 (f6 k2 n))
noncomputable def f5 (k2:Y2) (i7:Int) (iA:List Bool) (jA:Int) (aA:List Work) (bA:Int) (cA:List Slot) (dA:Int) (eA:Bool) (gA:List Bool):R:=sh5 i7 iA jA aA bA cA dA eA gA (f6 k2 100000)
noncomputable def f3 (k2:Y2) (i7:Int) (aA:List Work) (bA:Int) (cA:List Slot) (dA:Int) (eA:Bool) (gA:List Bool):R:=sh3 i7 aA bA cA dA eA gA (f5 k2)
noncomputable def f2:Nat→Y2
  | 0=>fun _ _ _ _ _ _ _=>none
  | n+1=>fun i7 aA bA cA dA eA gA=>sh2 i7 aA bA cA dA eA gA (f3 (f2 n))
noncomputable def f1 (aA:List Work) (bA:Int) (cA:List Slot) (dA:Int) (eA:Bool) (gA:List Bool):R:=sh1 aA bA cA dA eA gA (f2 100000)
noncomputable def f0 (l:List Work) (left:Int) (cost:Int) (any_:Bool) (dn:List Bool) (pn:List Slot):R:=sh0 l left cost any_ dn pn f1
theorem T4 (KL2:ae U El) (k2:Y2) (h2:∀ i7 aA bA cA dA eA gA,KL2 (fr2 i7 aA bA cA dA eA gA)=k2 i7 aA bA cA dA eA gA) (i7 aA bA cA dA eA gA):(hid (ct4 KL2)) (fr4 i7 aA bA cA dA eA gA)=f4 k2 i7 aA bA cA dA eA gA:=by
  refine (congrFun (am _) _).trans <| (P4 i7 aA bA cA dA eA gA KL2).trans ?_
  show _=sh4 i7 aA bA cA dA eA gA k2
  simp only [h2]
theorem T7 (KL2:ae U El) (KL6:ae U El) (k2:Y2) (k6:Y6) (h2:∀ i7 aA bA cA dA eA gA,KL2 (fr2 i7 aA bA cA dA eA gA)=k2 i7 aA bA cA dA eA gA) (h6:∀ i7 iA jA aA bA cA dA eA gA,KL6 (fr6 i7 iA jA aA bA cA dA eA gA)=k6 i7 iA jA aA bA cA dA eA gA) (i7 iA jA aA bA cA dA eA gA):(hid (ct7 (hid (ct4 KL2)) KL6)) (fr7 i7 iA jA aA bA cA dA eA gA)=f7 k2 k6 i7 iA jA aA bA cA dA eA gA:=by
  refine (congrFun (am _) _).trans <| (P7 i7 iA jA aA bA cA dA eA gA (hid (ct4 KL2)) KL6).trans ?_
  show _=sh7 i7 iA jA aA bA cA dA eA gA k6
  simp only [h6]
theorem T6 (KL2:ae U El) (k2:Y2) (h2:∀ i7 aA bA cA dA eA gA,KL2 (fr2 i7 aA bA cA dA eA gA)=k2 i7 aA bA cA dA eA gA):∀ (n:Nat),∀ i7 iA jA aA bA cA dA eA gA,it6 (hid (ct4 KL2)) n (fr6 i7 iA jA aA bA cA dA eA gA)=f6 k2 n i7 iA jA aA bA cA dA eA gA:=by
  intro n
  induction n with
  | zero=>intros; rfl
  | succ n ih =>
    intro i7 iA jA aA bA cA dA eA gA
    refine (P6 i7 iA jA aA bA cA dA eA gA (hid (ct4 KL2)) (it6 (hid (ct4 KL2)) n)).trans ?_
    show _=sh6 i7 iA jA aA bA cA dA eA gA (f4 k2) (f7 k2 (f6 k2 n))
    simp only [T4 KL2 k2 h2,T7 KL2 (it6 (hid (ct4 KL2)) n) k2 (f6 k2 n) h2 ih]
theorem H6 (KL2:ae U El) (k2:Y2) (h2:∀ i7 aA bA cA dA eA gA,KL2 (fr2 i7 aA bA cA dA eA gA)=k2 i7 aA bA cA dA eA gA) (i7 iA jA aA bA cA dA eA gA):hid (it6 (hid (ct4 KL2)) 100000) (fr6 i7 iA jA aA bA cA dA eA gA)=f6 k2 100000 i7 iA jA aA bA cA dA eA gA:=(congrFun (am _) _).trans (T6 KL2 k2 h2 100000 i7 iA jA aA bA cA dA eA gA)
theorem T5 (KL2:ae U El) (k2:Y2) (h2:∀ i7 aA bA cA dA eA gA,KL2 (fr2 i7 aA bA cA dA eA gA)=k2 i7 aA bA cA dA eA gA) (i7 iA jA aA bA cA dA eA gA):(hid (ct5 (hid (ct4 KL2)))) (fr5 i7 iA jA aA bA cA dA eA gA)=f5 k2 i7 iA jA aA bA cA dA eA gA:=by
  refine (congrFun (am _) _).trans <| (P5 i7 iA jA aA bA cA dA eA gA (hid (ct4 KL2))).trans ?_
  show _=sh5 i7 iA jA aA bA cA dA eA gA (f6 k2 100000)
  simp only [H6 KL2 k2 h2]
theorem T3 (KL2:ae U El) (k2:Y2) (h2:∀ i7 aA bA cA dA eA gA,KL2 (fr2 i7 aA bA cA dA eA gA)=k2 i7 aA bA cA dA eA gA) (i7 aA bA cA dA eA gA):(hid (ct3 KL2)) (fr3 i7 aA bA cA dA eA gA)=f3 k2 i7 aA bA cA dA eA gA:=by
  refine (congrFun (am _) _).trans <| (P3 i7 aA bA cA dA eA gA KL2).trans ?_
  show _=sh3 i7 aA bA cA dA eA gA (f5 k2)
  simp only [T5 KL2 k2 h2]
theorem T2:∀ (n:Nat),∀ i7 aA bA cA dA eA gA,it2 n (fr2 i7 aA bA cA dA eA gA)=f2 n i7 aA bA cA dA eA gA:=by
  intro n
  induction n with
  | zero=>intros; rfl
  | succ n ih =>
    intro i7 aA bA cA dA eA gA
    refine (P2 i7 aA bA cA dA eA gA (it2 n)).trans ?_
    show _=sh2 i7 aA bA cA dA eA gA (f3 (f2 n))
    simp only [T3 (it2 n) (f2 n) ih]
theorem H2 (i7 aA bA cA dA eA gA):hid (it2 100000) (fr2 i7 aA bA cA dA eA gA)=f2 100000 i7 aA bA cA dA eA gA:=(congrFun (am _) _).trans (T2 100000 i7 aA bA cA dA eA gA)
theorem T1 (aA bA cA dA eA gA):(hid ct1) (fr1 aA bA cA dA eA gA)=f1 aA bA cA dA eA gA:=by
  refine (congrFun (am _) _).trans <| (P1 aA bA cA dA eA gA).trans ?_
  show _=sh1 aA bA cA dA eA gA (f2 100000)
  simp only [H2]
theorem T0 (l left cost any_ dn pn):ak X bd (.seq none .d (.seq none .d (.seq (some nm1) .d (.seq none .d (.block (.loop nm2 (.seq (some nm3) .d (.seq (some nm4) (.block (.seq none .d (.seq none .d (.seq (some nm5) .d (.block (.loop nm6 (.seq (some nm7) .d (.seq none (.block (.region [(3,112),(23,114),(25,1000000000),(25,134),(25,1000000002)])) .d)))))))) .d)))))))) (fr0 l left cost any_ dn pn) RR (fun _ _=>none) RR=f0 l left cost any_ dn pn:=by
  refine (P0 l left cost any_ dn pn).trans ?_
  show _=sh0 l left cost any_ dn pn f1
  simp only [T1]
theorem run (l left cost any_ dn pn):jy X bd (.seq none .d (.seq none .d (.seq (some nm1) .d (.seq none .d (.block (.loop nm2 (.seq (some nm3) .d (.seq (some nm4) (.block (.seq none .d (.seq none .d (.seq (some nm5) .d (.block (.loop nm6 (.seq (some nm7) .d (.seq none (.block (.region [(3,112),(23,114),(25,1000000000),(25,134),(25,1000000002)])) .d)))))))) .d)))))))) nmR [] [(1000000000,(.box 1000000000 [(.lst .work l),(.int .i64 left),(.ful 1000000002),(.int .i64 cost),(.bool any_)])),(1000000001,(.rows .bool dn)),(1000000002,(.rows .slot pn))] [(.ptr 1000000000 0),.nils,(.ful 1000000001)]=f0 l left cost any_ dn pn:=T0 l left cost any_ dn pn
theorem crewLoop (l : List Work) (dn : List Bool) (h : lq l (BndF.n + 1) ([] : List Slot) dn) (k2 : Y2) (q : Nat) (hq : q < l.length) (hr : bx l dn (q : Int) = true) : ∀ (n j : Nat) (s : Fx), (List.getD l q aa).wc.length < n + j → j ≤ (List.getD l q aa).wc.length →
    f6 k2 n (q:Int) (List.set dn q true) (j:Int) l s.left s.plan s.cost s.any_ dn=f4 k2 (q:Int) l (frC (fun pl' s'=>frm l BndF.n pl' (List.set dn q true) s') l ([]:List Slot) (q:Int) ((List.getD l q aa).wc.drop j) s).left (frC (fun pl' s'=>frm l BndF.n pl' (List.set dn q true) s') l ([]:List Slot) (q:Int) ((List.getD l q aa).wc.drop j) s).plan (frC (fun pl' s'=>frm l BndF.n pl' (List.set dn q true) s') l ([]:List Slot) (q:Int) ((List.getD l q aa).wc.drop j) s).cost (frC (fun pl' s'=>frm l BndF.n pl' (List.set dn q true) s') l ([]:List Slot) (q:Int) ((List.getD l q aa).wc.drop j) s).any_ dn:=by
  have hwc9:=((cq h.1).2 _ (List.getElem_mem hq)).2
  have hlen:([]:List Slot).length≤12:=by obtain ⟨_,_,hl,sl,_,_,_,hc,_⟩:=h; omega
  intro n
  induction n with
  | zero=>intro j s h1 h2; omega
  | succ n ih =>
    intro j s h1 h2
    show sh6 (q:Int) (List.set dn q true) (j:Int) l s.left s.plan s.cost s.any_ dn (f4 k2) (f7 k2 (f6 k2 n))=_
    unfold sh6
    rw [aZ hq,cS,ac]
    by_cases hj:j < (List.getD l q aa).wc.length
    · rw [bw (show (j : Int) < Int.ofNat (List.getD l q aa).wc.length from Int.ofNat_lt.2 hj), cH, bl hj]
      simp only [frC]
      cases hlf:ile 0 s.left with
      | false=>rfl
      | true =>
        obtain ⟨g1,g2⟩:=kw h hq hr (List.getElem_mem hj)
        rw [cH,cond_true]
        show sh7 (q:Int) (List.set dn q true) (j:Int) l s.left s.plan s.cost s.any_ dn (f6 k2 n)=_
        unfold sh7
        have e1:∀ x:Slot,nle ((([]:List Slot)++([]:List Slot)).length+[x].length) 9223372036854775807=true:=fun x=>bC (by simp<;>omega)
        have e2:∀ x:Slot,nle (((([]:List Slot)++([]:List Slot)).length+[x].length) * 24) 140737488355328=true:=fun x=>bC (by simp<;>omega)
        rw [bC (show (([]:List Slot).length+([]:List Slot).length) * 24≤140737488355328 by simp<;>omega),bC (show ([]:List Slot).length+([]:List Slot).length≤9223372036854775807 by simp<;>omega),aZ hq,ac,aZ hj,ac,g1,e1,e2,al hj]
        have hP:frP l BndF.n ((([]:List Slot)++([]:List Slot))++[ch l ([]:List Slot) (q:Int) (List.getD l q aa).wc[j]]) (List.set dn q true)=true:=by
          rw [List.nil_append]
          exact frP_iff.2 g2
        rw [hP,bo j (by rw [al hq] at hj; omega)]
        have hih:=ih (j+1) (frm l BndF.n ((([]:List Slot)++([]:List Slot))++[ch l ([]:List Slot) (q:Int) (List.getD l q aa).wc[j]]) (List.set dn q true) s) (by omega) hj
        rw [List.nil_append] at hih ⊢
        exact hih
    · have : j = (List.getD l q aa).wc.length := by omega
      subst this
      rw [bp (show ¬ (((List.getD l q aa).wc.length:Nat):Int) < Int.ofNat (List.getD l q aa).wc.length from Int.lt_irrefl _),List.drop_length,bV]
      rfl
theorem workLoop (l : List Work) (dn : List Bool) (h : lq l (BndF.n + 1) ([] : List Slot) dn) : ∀ (m k fuel : Nat) (s : Fx), k + m = l.length → m < fuel →
    f2 fuel (bM l dn (k:Int)) l s.left s.plan s.cost s.any_ dn=rj (frI (fun k pl' s'=>frm l BndF.n pl' (List.set dn k true) s') l ([]:List Slot) dn m k s) l:=by
  have hO:=bX h.1 (aR h.2.1).good
  have hl:=h.2.2.1
  have hdl:dn.length=l.length:=by obtain ⟨_,_,_,sl,hg,_⟩:=h; exact hg.good.1
  have hb:Nat.beq dn.length l.length=true:=by rw [hdl]; exact Nat.beq_refl _
  intro m
  induction m with
  | zero =>
    intro k fuel s hk hf
    obtain ⟨n,rfl⟩:∃ n,fuel=n+1:=⟨fuel - 1,by omega⟩
    obtain rfl:k=l.length:=by omega
    rw [ku]
    show sh2 (-1) l s.left s.plan s.cost s.any_ dn (f3 (f2 n))=_
    unfold sh2
    rw [gC (show ¬ (0:Int) ≤ -1 by omega),bV]
    rfl
  | succ m ih =>
    intro k fuel s hk hf
    have hkl:k < l.length:=by omega
    obtain ⟨n,rfl⟩:∃ n,fuel=n+1:=⟨fuel - 1,by omega⟩
    rw [jS hkl]
    simp only [frI]
    cases hr:bx l dn (k:Int) with
    | false =>
      rw [cond_false,cond_false]
      exact ih (k+1) (n+1) s (by omega) (by omega)
    | true =>
      rw [cond_true,cond_true]
      show sh2 (k:Int) l s.left s.plan s.cost s.any_ dn (f3 (f2 n))=_
      unfold sh2
      rw [bD (show (0:Int)≤(k:Int) by omega),cH]
      cases hlf:ile 0 s.left with
      | false=>rfl
      | true =>
        rw [cH,cond_true]
        have hkd:k < dn.length:=by omega
        show sh3 (k:Int) l s.left s.plan s.cost s.any_ dn (f5 (f2 n))=_
        unfold sh3
        rw [List.nil_append,bC (show (([]:List Bool).length+dn.length) * 1≤140737488355328 by simp; omega),bC (show ([]:List Bool).length+dn.length≤9223372036854775807 by simp<;>omega),aZ hkd,ac,eb hkd]
        have hwc9:=((cq h.1).2 _ (List.getElem_mem hkl)).2
        show f6 (f2 n) 100000 (k:Int) (List.set dn k true) ((0:Nat):Int) l s.left s.plan s.cost s.any_ dn=_
        rw [crewLoop l dn h (f2 n) k hkl hr 100000 0 s (by rw [al hkl]; omega) (by omega),List.drop_zero]
        show sh4 (k:Int) l _ _ _ _ dn (f2 n)=_
        unfold sh4
        rw [bo k (by omega),hO,hb,bD (show (0:Int)≤((k+1:Nat):Int) by omega)]
        exact ih (k+1) n _ (by omega) (by omega)
theorem f0_eq (l : List Work) (left cost : Int) (any_ : Bool) (dn : List Bool) (pn : List Slot) (h : frP l (Nat.succ BndF.n) [] dn = true) : f0 l left cost any_ dn pn = rj (frm l (Nat.succ BndF.n) ([] : List Slot) dn ⟨left, pn, cost, any_⟩) l := by
  have hF:=frP_iff.1 h
  rw [Nat.succ_eq_add_one] at *
  have hall:=qv hF
  obtain ⟨hv,hval,hl,sl,hg,hJ,hR,hcnt,hn⟩:=frP_iff.1 h
  have hO:=bX hv (aR hval).good
  show sh0 l left cost any_ dn pn f1=_
  unfold sh0
  simp only [frm]
  cases hlt:ilt (IntKind.wrap .i64 (left - 1)) 0 with
  | true=>rfl
  | false =>
    rw [bV,cond_false]
    cases hb:(Int.ofNat ([]:List Slot).length == Int.ofNat l.length) with
    | true =>
      have hlen:([]:List Slot).length=l.length:=Int.ofNat.inj (beq_iff_eq.1 hb)
      have hco:d3 l ([]:List Slot)=true:=by
        simp only [d3,Bool.and_eq_true]
        exact ⟨bC (by omega),by rw [hlen]; exact Nat.beq_refl _,List.all_eq_true.2 hall⟩
      have ho:List.all ([]:List Slot) (fun s=>inb (Slot.sw s) ([]:List Slot).length)=true:=List.all_eq_true.2 fun s hs=>by rw [hlen]; exact hall s hs
      rw [hco,bC (show ([]:List Slot).length≤90000 by omega),ho]
      cases any_
      · rfl
      · cases ilt (b8 l ([]:List Slot)) cost<;>rfl
    | false =>
      rw [bV,cond_false]
      show sh1 l (IntKind.wrap .i64 (left - 1)) pn cost any_ dn (f2 100000)=_
      unfold sh1
      rw [hO,show Nat.beq dn.length l.length=true by rw [hg.good.1]; exact Nat.beq_refl _,show ile 0 (0:Int)=true from rfl]
      exact workLoop l dn hF l.length 0 100000 ⟨IntKind.wrap .i64 (left - 1),pn,cost,any_⟩ (by omega) (by omega)
theorem ok:CtxOk Try.prog X:=aU tab (spC rready.spOk (spC rplace.spOk (spC rordered.spOk (spC rcost.spOk spN)))) (dpC ⟨fromR.spOk,fromR.spDet⟩ dpN)
theorem okM:MOk Try.prog X:=fun g sp h=>by cases h
theorem spec (l:List Work) (left:Int) (cost:Int) (any_:Bool) (dn:List Bool) (pn:List Slot) (h:(frP l (Nat.succ BndF.n) [] dn)=true):MCall Try.prog E 48 [(.ptr 1000000000 0),.nils,(.ful 1000000001)] [(1000000000,(.box 1000000000 [(.lst .work l),(.int .i64 left),(.ful 1000000002),(.int .i64 cost),(.bool any_)])),(1000000001,(.rows .bool dn)),(1000000002,(.rows .slot pn))] (.tup []) [(1000000000,(.box 1000000000 [(.lst .work l),(.int .i64 (Fx.left (frm l (Nat.succ BndF.n) [] dn (⟨left,pn,cost,any_⟩:Fx)))),(.ful 1000000002),(.int .i64 (Fx.cost (frm l (Nat.succ BndF.n) [] dn (⟨left,pn,cost,any_⟩:Fx)))),(.bool (Fx.any_ (frm l (Nat.succ BndF.n) [] dn (⟨left,pn,cost,any_⟩:Fx))))])),(1000000002,(.rows .slot (Fx.plan (frm l (Nat.succ BndF.n) [] dn (⟨left,pn,cost,any_⟩:Fx)))))] :=
  bG ok okM Try.func48 (by kernel_rfl) (by kernel_rfl) (by kernel_rfl) (by show 3≤137; decide) ((run l left cost any_ dn pn).trans (f0_eq l left cost any_ dn pn h))
noncomputable def sp:MSp U El:=fun args hs k=>match args,hs with
  | [.ptr q0 0,.nils,.ful q1],[(q2,.box q3 [.lst .work l,.int .i64 left,.ful q4,.int .i64 cost,.bool any_]),(q5,.rows .bool dn),(q6,.rows .slot pn)]=>chk (Nat.beq q0 1000000000&&(Nat.beq q1 1000000001&&(Nat.beq q2 1000000000&&(Nat.beq q3 1000000000&&(Nat.beq q4 1000000002&&(Nat.beq q5 1000000001&&(Nat.beq q6 1000000002&&true))))))) (chk (frP l (Nat.succ BndF.n) [] dn) (k (.tup []) [(1000000000,(.box 1000000000 [(.lst .work l),(.int .i64 (Fx.left (frm l (Nat.succ BndF.n) [] dn (⟨left,pn,cost,any_⟩:Fx)))),(.ful 1000000002),(.int .i64 (Fx.cost (frm l (Nat.succ BndF.n) [] dn (⟨left,pn,cost,any_⟩:Fx)))),(.bool (Fx.any_ (frm l (Nat.succ BndF.n) [] dn (⟨left,pn,cost,any_⟩:Fx))))])),(1000000002,(.rows .slot (Fx.plan (frm l (Nat.succ BndF.n) [] dn (⟨left,pn,cost,any_⟩:Fx)))))]))
  | _,_=>none
theorem spOk:cJ Try.prog E 48 sp:=⟨Try.call48,fun args hs k r h=>by
  unfold sp at h
  split at h
  · obtain ⟨hq, hA⟩ := ab h
    clear h
    simp only [Bool.and_eq_true] at hq
    obtain ⟨e0,e1,e2,e3,e4,e5,e6,_⟩:=hq
    cases Nat.eq_of_beq_eq_true e0
    cases Nat.eq_of_beq_eq_true e1
    cases Nat.eq_of_beq_eq_true e2
    cases Nat.eq_of_beq_eq_true e3
    cases Nat.eq_of_beq_eq_true e4
    cases Nat.eq_of_beq_eq_true e5
    cases Nat.eq_of_beq_eq_true e6
    obtain ⟨h1,hB⟩:=ab hA
    exact ⟨_,_,spec _ _ _ _ _ _ h1,hB⟩
  · cases h⟩
theorem spDet:∀ args hs,∃ oo:Option (AV U El×ar U El),∀ k,sp args hs k=oo.bind fun p=>k p.1 p.2:=fun args hs=>by
  unfold sp
  split
  · exact aO (aO ⟨some (_,_),fun _=>rfl⟩)
  · exact ⟨none,fun _=>rfl⟩
end fromN
end
theorem rG:∀ n,FrC n
  | 0 => fun dn l left cost any_ pl pn h => by
    obtain ⟨_,_,_,_,_,_,_,_,hc⟩:=frP_iff.1 h
    omega
  | n+1=>@fromL.spec ⟨n,rG n⟩
namespace fromF
theorem spec (l:List Work) (left:Int) (cost:Int) (any_:Bool) (dn:List Bool) (pn:List Slot) (h:(frP l 200 [] dn)=true):MCall Try.prog E 48 [(.ptr 1000000000 0),.nils,(.ful 1000000001)] [(1000000000,(.box 1000000000 [(.lst .work l),(.int .i64 left),(.ful 1000000002),(.int .i64 cost),(.bool any_)])),(1000000001,(.rows .bool dn)),(1000000002,(.rows .slot pn))] (.tup []) [(1000000000,(.box 1000000000 [(.lst .work l),(.int .i64 (Fx.left (frm l 200 [] dn (⟨left,pn,cost,any_⟩:Fx)))),(.ful 1000000002),(.int .i64 (Fx.cost (frm l 200 [] dn (⟨left,pn,cost,any_⟩:Fx)))),(.bool (Fx.any_ (frm l 200 [] dn (⟨left,pn,cost,any_⟩:Fx))))])),(1000000002,(.rows .slot (Fx.plan (frm l 200 [] dn (⟨left,pn,cost,any_⟩:Fx)))))]:=@fromN.spec ⟨199,rG 199⟩ _ _ _ _ _ _ h
noncomputable def sp:MSp U El:=fun args hs k=>match args,hs with
  | [.ptr q0 0,.nils,.ful q1],[(q2,.box q3 [.lst .work l,.int .i64 left,.ful q4,.int .i64 cost,.bool any_]),(q5,.rows .bool dn),(q6,.rows .slot pn)]=>chk (Nat.beq q0 1000000000&&(Nat.beq q1 1000000001&&(Nat.beq q2 1000000000&&(Nat.beq q3 1000000000&&(Nat.beq q4 1000000002&&(Nat.beq q5 1000000001&&(Nat.beq q6 1000000002&&true))))))) (chk (frP l 200 [] dn) (k (.tup []) [(1000000000,(.box 1000000000 [(.lst .work l),(.int .i64 (Fx.left (frm l 200 [] dn (⟨left,pn,cost,any_⟩:Fx)))),(.ful 1000000002),(.int .i64 (Fx.cost (frm l 200 [] dn (⟨left,pn,cost,any_⟩:Fx)))),(.bool (Fx.any_ (frm l 200 [] dn (⟨left,pn,cost,any_⟩:Fx))))])),(1000000002,(.rows .slot (Fx.plan (frm l 200 [] dn (⟨left,pn,cost,any_⟩:Fx)))))]))
  | _,_=>none
theorem spOk:cJ Try.prog E 48 sp:=⟨Try.call48,fun args hs k r h=>by
  unfold sp at h
  split at h
  · obtain ⟨hq, hA⟩ := ab h
    clear h
    simp only [Bool.and_eq_true] at hq
    obtain ⟨e0,e1,e2,e3,e4,e5,e6,_⟩:=hq
    cases Nat.eq_of_beq_eq_true e0
    cases Nat.eq_of_beq_eq_true e1
    cases Nat.eq_of_beq_eq_true e2
    cases Nat.eq_of_beq_eq_true e3
    cases Nat.eq_of_beq_eq_true e4
    cases Nat.eq_of_beq_eq_true e5
    cases Nat.eq_of_beq_eq_true e6
    obtain ⟨h1,hB⟩:=ab hA
    exact ⟨_,_,spec _ _ _ _ _ _ h1,hB⟩
  · cases h⟩
theorem spDet:∀ args hs,∃ oo:Option (AV U El×ar U El),∀ k,sp args hs k=oo.bind fun p=>k p.1 p.2:=fun args hs=>by
  unfold sp
  split
  · exact aO (aO ⟨some (_,_),fun _=>rfl⟩)
  · exact ⟨none,fun _=>rfl⟩
end fromF
noncomputable def fg (l:List Work) (most:Int):Fx:=frm l 200 [] (List.replicate l.length d_bool) ⟨most,[],0,false⟩
noncomputable def ig (l:List Work) (most:Int):List Slot×Int×Int:=bif ilt most 1||ilt 100000 most then ([],0,2) else bif ilt (fg l most).left 0 then ([],0,6) else ((fg l most).plan,(fg l most).cost,0)
noncomputable def fZ (l:List Work) (most:Int):List Slot:=(ig l most).1
noncomputable def ga (l:List Work) (most:Int):Int:=(ig l most).2.1
noncomputable def gb (l:List Work) (most:Int):Int:=(ig l most).2.2
namespace rbest
noncomputable def bd:Code:=(Try.f16.body).getD .skip
noncomputable def X:Ctx U El:=⟨E,tds,zeros,eqs,aG [],100000,36,aD [],cg [(48,(gz fromF.sp))]⟩
noncomputable def nmR:Norm U:=⟨[],[4,5,6],[],[(4,.slot)],[],[],[]⟩
noncomputable def RR:ae U El:=fun st=>aM nmR st (aK [4,5,6] [])
noncomputable def nm1:Norm U:=⟨[],[0,1],[],[],[],[],[]⟩
noncomputable def nm2:Norm U:=⟨[],[0,7],[17,500001702],[],[(17,2,.slot,500001702)],[],[(17,0,.work)]⟩
abbrev Y1:=(List Work)→Int→R
abbrev Y2:=(List Work)→(List Work)→Int→(List Slot)→Int→Bool→R
noncomputable def fr0 (l:List Work) (most:Int):St U El:=⟨[(0,(.lst .work l)),(1,(.int .i64 most))],[]⟩
noncomputable def fr1 (l0:List Work) (pA:Int):St U El:=⟨[(0,(.lst .work l0)),(1,(.int .i64 pA))],[]⟩
noncomputable def fr2 (l0:List Work) (kA:List Work) (lA:Int) (mA:List Slot) (nA:Int) (oA:Bool):St U El:=⟨[(0,(.lst .work l0)),(7,(.ptr 17 0))],[(17,(.box 0 [(.lst .work kA),(.int .i64 lA),(.ful 500001702),(.int .i64 nA),(.bool oA)])),(500001702,(.rows .slot mA))]⟩
noncomputable def sh0 (l:List Work) (most:Int) (k1:Y1):R :=
  ah (ilt most (1:Int)) (some ((.tup [(.lst .slot ([]:List Slot)),(.int .i64 (0:Int)),(.int .i64 (2:Int))]),[])) (ah (ilt (100000:Int) most) (some ((.tup [(.lst .slot ([]:List Slot)),(.int .i64 (0:Int)),(.int .i64 (2:Int))]),[])) (k1 l most))
noncomputable def sh1 (l0:List Work) (pA:Int) (k2:Y2):R :=
  k2 l0 l0 pA ([]:List Slot) (0:Int) false
noncomputable def sh2 (l0:List Work) (kA:List Work) (lA:Int) (mA:List Slot) (nA:Int) (oA:Bool):R :=
  chk (ile 0 (Int.ofNat (List.length l0))&&ile (Int.ofNat (List.length l0)) (Int.ofNat (List.length l0))&&ile ((Int.ofNat (List.length l0)) * 1) 140737488355328) (chk (frP kA 200 [] (List.replicate (Int.toNat (Int.ofNat (List.length l0))) d_bool)) (ah (ilt (Fx.left (frm kA 200 [] (List.replicate (Int.toNat (Int.ofNat (List.length l0))) d_bool) (⟨lA,mA,nA,oA⟩:Fx))) (0:Int)) (some ((.tup [(.lst .slot ([]:List Slot)),(.int .i64 (0:Int)),(.int .i64 (6:Int))]),[])) (some ((.tup [(.lst .slot (Fx.plan (frm kA 200 [] (List.replicate (Int.toNat (Int.ofNat (List.length l0))) d_bool) (⟨lA,mA,nA,oA⟩:Fx)))),(.int .i64 (Fx.cost (frm kA 200 [] (List.replicate (Int.toNat (Int.ofNat (List.length l0))) d_bool) (⟨lA,mA,nA,oA⟩:Fx)))),(.int .i64 (0:Int))]),[]))))
noncomputable def ct1:ae U El:=fun st=>ak X (cdp [1,1] bd) (.seq (some nm2) .d .d) st RR (fun _ _=>none) RR
noncomputable def ct2:ae U El:=fun st=>ak X (cdp [1,1,1] bd) .d st RR (fun _ _=>none) RR
theorem P0 (l most):ak X (cdp [] bd) (.seq none .d (.seq (some nm1) .d (.seq (some nm2) .d .d))) (fr0 l most) RR (fun _ _=>none) RR=sh0 l most (fun y0 y1=>(hid ct1) (fr1 y0 y1)):=by kernel_rfl
theorem P1 (l0 pA):ct1 (fr1 l0 pA)=sh1 l0 pA (fun y0 y1 y2 y3 y4 y5=>(hid ct2) (fr2 y0 y1 y2 y3 y4 y5)):=by kernel_rfl
theorem P2 (l0 kA lA mA nA oA):ct2 (fr2 l0 kA lA mA nA oA)=sh2 l0 kA lA mA nA oA:=by kernel_rfl
noncomputable def f2 (l0:List Work) (kA:List Work) (lA:Int) (mA:List Slot) (nA:Int) (oA:Bool):R:=sh2 l0 kA lA mA nA oA
noncomputable def f1 (l0:List Work) (pA:Int):R:=sh1 l0 pA f2
noncomputable def f0 (l:List Work) (most:Int):R:=sh0 l most f1
theorem T2 (l0 kA lA mA nA oA):(hid ct2) (fr2 l0 kA lA mA nA oA)=f2 l0 kA lA mA nA oA:=by
  refine (congrFun (am _) _).trans <| (P2 l0 kA lA mA nA oA).trans ?_
  show _=sh2 l0 kA lA mA nA oA
  rfl
theorem T1 (l0 pA):(hid ct1) (fr1 l0 pA)=f1 l0 pA:=by
  refine (congrFun (am _) _).trans <| (P1 l0 pA).trans ?_
  show _=sh1 l0 pA f2
  simp only [T2]
theorem T0 (l most):ak X bd (.seq none .d (.seq (some nm1) .d (.seq (some nm2) .d .d))) (fr0 l most) RR (fun _ _=>none) RR=f0 l most:=by
  refine (P0 l most).trans ?_
  show _=sh0 l most f1
  simp only [T1]
theorem run (l most):bg X bd (.seq none .d (.seq (some nm1) .d (.seq (some nm2) .d .d))) nmR [4,5,6] [] [(.lst .work l),(.int .i64 most)]=f0 l most:=T0 l most
theorem f0_eq (l : List Work) (most : Int) (h : (aQ l 12 && (okV l && nle (List.length l) 12)) = true) : f0 l most = rD (fZ l most, ga l most, gb l most) := by
  have hk:=se h
  have hn:=hk.n
  show sh0 l most f1=_
  unfold sh0 fZ ga gb ig
  cases ilt most 1 with
  | true=>rfl
  | false =>
    cases ilt 100000 most with
    | true=>rfl
    | false =>
      show sh2 l l most [] 0 false=_
      unfold sh2
      have hno:∀ k,k < l.length→List.getD (List.replicate l.length d_bool) k d_bool=true→False:=fun k hk hd=>by
        rw [al (by simpa using hk),List.getElem_replicate] at hd
        cases hd
      have hP:frP l 200 [] (List.replicate l.length d_bool)=true:=frP_iff.2 ⟨hk.ok,hk.v,hn,List.replicate l.length d_slot,ll l,fun k hk hd=>(hno k hk hd).elim,⟨(fun s hs=>by cases hs),fun k hk hd=>(hno k hk hd).elim⟩,by rw [cI]; simp,by rw [cI]; omega⟩
      have e0:(List.replicate (Int.toNat (Int.ofNat l.length)) d_bool)=List.replicate l.length d_bool:=rfl
      rw [bD (show (0:Int)≤Int.ofNat l.length by simp),bD (Int.le_refl (Int.ofNat l.length)),bD (show Int.ofNat l.length * 1≤140737488355328 by simp; omega),e0,hP]
      have e:frm l 200 [] (List.replicate l.length d_bool) (⟨most,[],0,false⟩:Fx)=fg l most:=rfl
      rw [e]
      cases ilt (fg l most).left 0<;>rfl
theorem ok:CtxOk Try.prog X:=aU tab spN dpN
theorem okM:MOk Try.prog X:=bF _ (mpC (cF ok fromF.spOk) mpN)
theorem spec (l:List Work) (most:Int) (h:((aQ l 12&&(okV l&&nle (List.length l) 12)))=true):az Try.prog E 16 [(.lst .work l),(.int .i64 most)] (.tup [(.lst .slot (fZ l most)),(.int .i64 (ga l most)),(.int .i64 (gb l most))]) [] :=
  aq ok okM Try.call16 Try.func16 (by kernel_rfl) (by kernel_rfl) (by kernel_rfl) (by show 2≤36; decide) (by decide) (by rfl) ((run l most).trans (f0_eq l most h))
noncomputable def sp:Sp U El:=fun args k=>match args with
  | [.lst .work l,.int .i64 most]=>chk ((aQ l 12&&(okV l&&nle (List.length l) 12))) (k (.tup [(.lst .slot (fZ l most)),(.int .i64 (ga l most)),(.int .i64 (gb l most))]) [])
  | _=>none
theorem spOk:SpOk Try.prog E 16 sp where
  det:=fun vs=>by
    unfold sp
    split
    · exact bz _ _ _
    · exact ⟨none,fun _=>rfl⟩
  ok:=fun vs k r h=>by
    unfold sp at h
    split at h
    · obtain ⟨h1, h2⟩ := ab h
      exact ⟨_,_,spec _ _ h1,h2⟩
    · cases h
end rbest
end Go.Proofs.Ythdklallcljhlaa

namespace Go.Proofs.Ythdklallcljhlaa
set_option linter.unusedSectionVars false
set_option linter.unusedSimpArgs false
set_option linter.unusedVariables false
set_option maxRecDepth 100000
theorem pd {c:List Slot} {x:Slot} {j:Nat} (h:j < c.length):List.getD (c++[x]) j d_slot=List.getD c j d_slot:=by
  rw [al (by simp; omega),al h,List.getElem_append_left h]
theorem rm (l:List Work) (pl:List Slot) (v:Slot):∀ (n k:Nat) (s:Int),k+n=pl.length→rcG l (pl++[v]) (n+1) k s=rcT l v (rcG l pl n k s):=by
  intro n
  induction n with
  | zero =>
    intro k s hk
    obtain rfl:k=pl.length:=by omega
    show rcT l (List.getD (pl++[v]) pl.length d_slot) s=rcT l v s
    rw [al (by simp)]
    simp
  | succ n ih =>
    intro k s hk
    show rcG l (pl++[v]) (n+1) (k+1) (rcT l (List.getD (pl++[v]) k d_slot) s)=rcT l v (rcG l pl n (k+1) (rcT l (List.getD pl k d_slot) s))
    rw [pd (by omega),ih (k+1) _ (by omega)]
theorem pe (l:List Work) (pl:List Slot) (v:Slot):b8 l (pl++[v])=rcT l v (b8 l pl):=by
  unfold b8
  rw [List.length_append,List.length_singleton]
  exact rm l pl v pl.length 0 0 (by omega)
theorem qw {l:List Work} {q:Nat} {v:Slot} {sum:Int} (h:LV l) (hq:q < l.length) (hsw:v.sw=(q:Int)) (he:0≤aE l v∧aE l v≤2000000) (hs:0≤sum∧sum≤1000000000000000):rcT l v sum=IntKind.wrap .i64 (sum+ba (List.getD l q aa) (aE l v)):=by
  obtain ⟨d1,d2⟩:=ib (aR h.v).good _ (List.getElem_mem hq)
  obtain ⟨x,g1,g2,g3,g4,g5,g6,g7⟩:=gL (w:=l[q]) (e:=aE l v) d2 d1 he
  have hw:IntKind.wrap .i64 (aE l v - l[q].wd)=aE l v - l[q].wd:=bU (by omega) (by omega)
  unfold rcT
  rw [hsw,ac,al hq,hw]
  by_cases hp:0 < aE l v - l[q].wd
  · rw [bw hp, cond_true]
    have hx:x=aE l v - l[q].wd:=by rcases g5 with e | e<;>omega
    rw [← hx,Int.mul_comm,bU (x:=l[q].wp * x) (by omega) (by omega),g1]
  · rw [bp hp, cond_false]
    have hx:x=0:=by rcases g5 with e | e<;>omega
    rw [g1,hx,Int.mul_zero,Int.add_zero,bU (by omega) (by omega)]
theorem qx {l:List Work} {sl sl':List Slot} {dn:List Bool} {pl:List Slot} (ha:Agree sl sl' dn) (h:PR l sl dn pl):PR l sl' dn pl:=by
  refine ⟨fun s hs => ?_,fun k hk hd => ?_⟩
  · obtain ⟨k, h1, h2, h3⟩ := h.fro s hs
    exact ⟨k,h1,h2,by rw [ha k h2]; exact h3⟩
  · rw [ha k hd]
    exact h.to k hk hd
theorem sj {l:List Work} {sl pl:List Slot} {dn:List Bool} {T:Int} (hg:GS l sl dn) (hJ:GJ l sl dn T) (hR:PR l sl dn pl) (hpl:pl.length=l.length) (hz:bh dn=0):j9 pl=sl:=by
  have hall:∀ k,k < l.length→List.getD dn k d_bool=true:=fun k hkl=>dH dn hz k (by rw [hg.good.1]; exact hkl)
  have hsw:∀ k,k < l.length→(List.getD sl k d_slot).sw=(k:Int):=fun k hkl=>(hJ k hkl (hall k hkl)).sw
  unfold j9
  obtain ⟨a1,a2⟩:=rh (sl:=sl) (p:=pl) pl.length 0 (List.replicate pl.length d_slot) (by omega) (fun j _ hj=>by
    obtain ⟨k,hkl,_,e⟩:=hR.fro _ (List.getElem_mem hj)
    rw [al hj,e,hsw k hkl,ac]
    exact ⟨by simp; omega,rfl⟩)
  rw [List.length_replicate] at a1 a2
  refine List.ext_getElem (by rw [a1,hpl,hg.len]) fun k g1 g2 => ?_
  have hkl:k < l.length:=by rw [← hg.len]; exact g2
  have:=a2 k (by omega) (.inr (by
    obtain ⟨j,hj,e⟩:=List.getElem_of_mem (hR.to k hkl (hall k hkl))
    exact ⟨j,by omega,hj,by rw [al hj,e,hsw k hkl,ac]⟩))
  rw [al g1,al g2] at this
  exact this
structure Rl (most:Int) (s:Sr) (t:Fx):Prop where
  left:t.left=most - s.met
  met:0≤s.met
  any:t.any_=s.found
  cost:t.cost=s.least
  plan:t.plan=s.best
def EQ (most:Int) (r:Bool×Sr) (f:Fx):Prop:=(r.1=true∧0≤f.left∧Rl most r.2 f)∨(r.1=false∧f.left < 0)
theorem rn {rec_:List Slot→Fx→Fx} {l:List Work} {pl:List Slot} {k:Int}:∀ (cs:List Int) (t:Fx),t.left < 0→frC rec_ l pl k cs t=t:=by
  intro cs
  cases cs with
  | nil=>intro t _; rfl
  | cons c cs =>
    intro t h
    simp only [frC]
    rw [gC (by omega),cond_false]
theorem ro {rec_:Nat→List Slot→Fx→Fx} {l:List Work} {pl:List Slot} {dn:List Bool}:∀ (m k:Nat) (t:Fx),t.left < 0→frI rec_ l pl dn m k t=t:=by
  intro m
  induction m with
  | zero=>intro k t _; rfl
  | succ m ih =>
    intro k t h
    simp only [frI]
    cases bx l dn (k:Int) with
    | false=>exact ih (k+1) t h
    | true=>rw [cond_true,gC (by omega),cond_false]
theorem nr {rec_:Int→Sr→Bool×Sr} {l:List Work} {sum:Int} {s:Sr}:∀ (m k:Nat),(∀ j,k≤j→j < k+m→bx l s.dn (j:Int)=false)→cd rec_ l sum m k s=(true,s):=by
  intro m
  induction m with
  | zero=>intro k _; rfl
  | succ m ih =>
    intro k h
    simp only [cd]
    rw [h k (Nat.le_refl _) (by omega),cond_false]
    exact ih (k+1) fun j h1 h2=>h j (by omega) (by omega)
structure Both (l:List Work) (most:Int) (d:Nat) (sum:Int) (pl:List Slot) (s:Sr) (t:Fx):Prop where
  gd:Gd l s d sum
  pr:PR l s.sl s.dn pl
  len:pl.length=d
  cost:b8 l pl=sum
  rl:Rl most s t
theorem qy {l : List Work} {most : Int} {recS : Int → Sr → Bool × Sr} {recF : List Slot → Fx → Fx} {sum : Int} {q d : Nat} {dn : List Bool} {pl : List Slot} (h : LV l) (hl : l.length ≤ 12) (hq : q < l.length) (hr : bx l dn (q : Int) = true)
    (hrec:∀ sum' s' pl' t',s'.dn=dn.set q true→Both l most (d+1) sum' pl' s' t'→0≤t'.left→EQ most (recS sum' s') (recF pl' t')∧Res l s' (recS sum' s')) :
    ∀ (cs:List Int) (s:Sr) (t:Fx),(∀ c∈cs,c∈(List.getD l q aa).wc)→s.dn=dn→Both l most d sum pl s t→0≤t.left→EQ most (bn recS l sum (q:Int) cs s) (frC recF l pl (q:Int) cs t)∧((bn recS l sum (q:Int) cs s).1=true→Both l most d sum pl (bn recS l sum (q:Int) cs s).2 (frC recF l pl (q:Int) cs t)∧(bn recS l sum (q:Int) cs s).2.dn=dn):=by
  intro cs
  induction cs with
  | nil=>intro s t _ hdn hb h0; exact ⟨.inl ⟨rfl,h0,hb.rl⟩,fun _=>⟨hb,hdn⟩⟩
  | cons c cs ih =>
    intro s t hcs hdn hb h0
    subst hdn
    have hG:=hb.gd
    have hcnt:=hG.cnt
    have hmem:=hcs c (List.mem_cons_self ..)
    have hany:List.any (List.getD l q aa).wc (bc c)=true:=List.any_eq_true.2 ⟨c,hmem,by simp [bc]⟩
    have hqs:q < s.sl.length:=by rw [hG.gs.len]; exact hq
    have hqd:q < s.dn.length:=by rw [hG.gs.good.1]; exact hq
    have hdq:=(cT hr).1
    obtain ⟨hG1,v,es,hB⟩:=mD h hG hq hr hany
    have hS:=mq h.ok h.v hG.gs hq hr
    have hpe:=mF hS hG.gj hb.pr (by omega) (by omega) hany
    have ev:aC l s.sl s.dn (q:Int) c=v:=by
      have e1:List.getD (bk l s (q:Int) c).sl q d_slot=⟨(q:Int),c,aC l s.sl s.dn (q:Int) c⟩:=by
        show List.getD (List.set s.sl q ⟨(q:Int),c,aC l s.sl s.dn (q:Int) c⟩) q d_slot=_
        rw [aX _ _ _ _ hqs,if_pos rfl]
      have e2:List.getD (bk l s (q:Int) c).sl q d_slot=⟨(q:Int),c,v⟩:=by rw [es,aX _ _ _ _ hqs,if_pos rfl]
      rw [e1] at e2
      exact (Slot.mk.inj e2).2.2
    have eS:ch l pl (q:Int) c=⟨(q:Int),c,v⟩:=by unfold ch; rw [hpe,ev]
    have af:List.getD (bk l s (q:Int) c).sl (Int.toNat (q:Int)) d_slot=⟨(q:Int),c,v⟩:=by rw [es,ac,aX _ _ _ _ hqs,if_pos rfl]
    have hend:=nq h hG1.gj (by omega) hq (show List.getD (bk l s (q:Int) c).dn q d_bool=true by
      show List.getD (List.set s.dn q true) q d_bool=true
      rw [bN _ _ _ hqd,if_pos rfl])
    have hget':List.getD (bk l s (q:Int) c).sl q d_slot=⟨(q:Int),c,v⟩:=af
    rw [hget'] at hend
    have hsb:=qr h hG.gj (by omega) l.length 0 (by omega)
    have hcost:b8 l (pl++[ch l pl (q:Int) c])=IntKind.wrap .i64 (sum+ba (List.getD l (Int.toNat (q:Int)) aa) (aE l (List.getD (bk l s (q:Int) c).sl (Int.toNat (q:Int)) d_slot))):=by
      rw [pe,hb.cost,eS,af,ac]
      have hs:=hG.sum
      have he1:=hend.1
      have he2:=hend.2.1
      have he3:=hend.2.2.1
      refine qw h hq rfl ?_ (by rw [hs]; omega)
      rw [he1]
      show 0≤v+_∧v+_≤2000000
      have he2':0≤v:=he2
      have he3':v+(List.getD l q aa).wh≤100000:=he3
      omega
    have hB1:Both l most (d+1) (IntKind.wrap .i64 (sum+ba (List.getD l (Int.toNat (q:Int)) aa) (aE l (List.getD (bk l s (q:Int) c).sl (Int.toNat (q:Int)) d_slot)))) (pl++[ch l pl (q:Int) c]) (bk l s (q:Int) c) t :=
      ⟨hG1,by rw [es,eS]; exact n6 hq hG.gs.len hG.gs.good.1 hdq hb.pr,by rw [List.length_append,List.length_singleton,hb.len],hcost,⟨hb.rl.left,hb.rl.met,hb.rl.any,hb.rl.cost,hb.rl.plan⟩⟩
    obtain ⟨hE,hR⟩:=hrec _ (bk l s (q:Int) c) _ t rfl hB1 h0
    simp only [bn,frC]
    rw [bD h0,cond_true]
    generalize recS (IntKind.wrap .i64 (sum+ba (List.getD l (Int.toNat (q:Int)) aa) (aE l (List.getD (bk l s (q:Int) c).sl (Int.toNat (q:Int)) d_slot)))) (bk l s (q:Int) c)=r at hE hR ⊢
    generalize recF (pl++[ch l pl (q:Int) c]) t=f at hE ⊢
    rcases hE with ⟨e1,e2,e3⟩ | ⟨e1,e2⟩
    · rw [e1, Bool.not_true, cond_false]
      obtain ⟨b1,b2,b3,b4⟩:=n4 h hG hq hr hR e1
      refine ih (ee r.2 (q:Int)) f (fun c' hc'=>hcs c' (List.mem_cons_of_mem _ hc')) b1 ⟨b4,by rw [b1]; exact qx b3 hb.pr,hb.len,hb.cost,⟨e3.left,e3.met,e3.any,e3.cost,e3.plan⟩⟩ e2
    · rw [e1, rn _ _ e2]
      exact ⟨.inr ⟨rfl,e2⟩,fun hx=>by cases hx⟩
theorem qz {l : List Work} {most : Int} {recS : Int → Sr → Bool × Sr} {recF : Nat → List Slot → Fx → Fx} {sum : Int} {d : Nat} {dn : List Bool} {pl : List Slot} (h : LV l) (hl : l.length ≤ 12)
    (hrec:∀ q sum' s' pl' t',q < l.length→bx l dn (q:Int)=true→s'.dn=dn.set q true→Both l most (d+1) sum' pl' s' t'→0≤t'.left→EQ most (recS sum' s') (recF q pl' t')∧Res l s' (recS sum' s')) :
    ∀ (m k:Nat) (s:Sr) (t:Fx),k+m=l.length→s.dn=dn→Both l most d sum pl s t→0≤t.left→EQ most (cd recS l sum m k s) (frI recF l pl dn m k t):=by
  intro m
  induction m with
  | zero=>intro k s t _ _ hb h0; exact .inl ⟨rfl,h0,hb.rl⟩
  | succ m ih =>
    intro k s t hk hdn hb h0
    simp only [cd,frI]
    rw [hdn]
    cases hr:bx l dn (k:Int) with
    | false=>exact ih (k+1) s t (by omega) hdn hb h0
    | true =>
      rw [cond_true,cond_true,bD h0,cond_true]
      obtain ⟨hE,hK⟩:=qy h hl (by omega) hr (fun sum' s' pl' t'=>hrec k sum' s' pl' t' (by omega) hr) (List.getD l k aa).wc s t (fun _ hc=>hc) hdn hb h0
      generalize bn recS l sum (k:Int) (List.getD l k aa).wc s=r at hE hK ⊢
      generalize frC (recF k) l pl (k:Int) (List.getD l k aa).wc t=f at hE hK ⊢
      rcases hE with ⟨e1,e2,e3⟩ | ⟨e1,e2⟩
      · obtain ⟨k1, k2⟩ := hK e1
        rw [e1,cond_true]
        exact ih (k+1) r.2 f (by omega) k2 k1 e2
      · rw [e1, cond_false, ro _ _ _ e2]
        exact .inr ⟨rfl,e2⟩
theorem rp {l : List Work} {most : Int} (h : LV l) (hl : l.length ≤ 12) (hm : most ≤ 100000) : ∀ (n d : Nat) (sum : Int) (pl : List Slot) (s : Sr) (t : Fx), Both l most d sum pl s t → 0 ≤ t.left → bh s.dn < n → EQ most (aL l most n (d : Int) sum s) (frm l n pl s.dn t) := by
  intro n
  induction n with
  | zero=>intro d sum pl s t _ _ hc; omega
  | succ n ih =>
    intro d sum pl s t hb h0 hc
    have hG:=hb.gd
    have hcnt:=hG.cnt
    have hleft:=hb.rl.left
    have hmet:=hb.rl.met
    have w1:IntKind.wrap .i64 (s.met+1)=s.met+1:=bU (by omega) (by omega)
    have w2:IntKind.wrap .i64 (t.left - 1)=t.left - 1:=bU (by omega) (by omega)
    simp only [aL,frm]
    rw [w1,w2]
    by_cases hlt:most < s.met+1
    · rw [bw hlt, bw (show t.left - 1 < 0 by omega)]
      exact .inr ⟨rfl,by show t.left - 1 < 0; omega⟩
    · rw [bp hlt, bp (show ¬ t.left - 1 < 0 by omega), cond_false, cond_false]
      have hG0:Gd l (⟨s.met+1,s.least,s.found,s.best,s.sl,s.dn⟩:Sr) d sum:=⟨hG.gs,hG.gj,hG.cnt,hG.sum,hG.lf⟩
      have hR0:Rl most (⟨s.met+1,s.least,s.found,s.best,s.sl,s.dn⟩:Sr) ⟨t.left - 1,t.plan,t.cost,t.any_⟩:=⟨by show t.left - 1=most - (s.met+1); omega,by show 0≤s.met+1; omega,hb.rl.any,hb.rl.cost,hb.rl.plan⟩
      by_cases hd:d=l.length
      · have e1 : (Int.ofNat pl.length == Int.ofNat l.length) = true := by rw [hb.len, hd]; exact beq_self_eq_true _
        have e2:((d:Int) == Int.ofNat l.length)=true:=by rw [hd]; exact beq_self_eq_true _
        have hz:bh s.dn=0:=by omega
        have hall:∀ k,k < l.length→List.getD s.dn k d_bool=true:=fun k hk=>dH s.dn hz k (by rw [hG.gs.good.1]; exact hk)
        have hord:=sj hG.gs hG.gj hb.pr (by rw [hb.len,hd]) hz
        obtain ⟨q1,q2,_⟩:=lk l (d:Int) sum ⟨s.met+1,s.least,s.found,s.best,s.sl,s.dn⟩
        rw [nr l.length 0 fun j _ hj=>by
          rw [q1]
          unfold bx
          rw [ac,hall j (by omega)]
          rfl,e1,cond_true]
        unfold di
        rw [e2,Bool.true_and,hord,hb.cost,hb.rl.any,hb.rl.cost]
        cases (!s.found||ilt sum s.least) with
        | true=>exact .inl ⟨rfl,by show 0≤t.left - 1; omega,⟨hR0.left,hR0.met,rfl,rfl,rfl⟩⟩
        | false=>exact .inl ⟨rfl,by show 0≤t.left - 1; omega,⟨hR0.left,hR0.met,rfl,rfl,hb.rl.plan⟩⟩
      · have e1 : (Int.ofNat pl.length == Int.ofNat l.length) = false := beq_eq_false_iff_ne.2 fun e => hd (by rw [← hb.len]; exact Int.ofNat.inj e)
        have e2:((d:Int) == Int.ofNat l.length)=false:=beq_eq_false_iff_ne.2 fun e=>hd (Int.ofNat.inj e)
        have hleaf:di l (d:Int) sum ⟨s.met+1,s.least,s.found,s.best,s.sl,s.dn⟩=⟨s.met+1,s.least,s.found,s.best,s.sl,s.dn⟩:=by
          unfold di
          rw [e2]
          rfl
        have hw1:IntKind.wrap .i64 ((d:Int)+1)=((d+1:Nat):Int):=bo d (by omega)
        rw [e1,cond_false,hleaf,hw1]
        refine qz (recS:=fun sum' s'=>aL l most n ((d+1:Nat):Int) sum' s') (recF:=fun k pl' s'=>frm l n pl' (List.set s.dn k true) s') (d:=d) (dn:=s.dn) h hl (fun q sum' s' pl' t' hq hr hd' hb' h0' => ?_) l.length 0 ⟨s.met+1,s.least,s.found,s.best,s.sl,s.dn⟩ ⟨t.left - 1,t.plan,t.cost,t.any_⟩ (by omega) rfl ⟨hG0,hb.pr,hb.len,hb.cost,hR0⟩ (by show 0≤t.left - 1; omega)
        have hcs:=dR s.dn q (by rw [hG.gs.good.1]; exact hq) (cT hr).1
        have hc':bh s'.dn < n:=by rw [hd']; omega
        have h7:=ih (d+1) sum' pl' s' t' hb' h0' hc'
        rw [hd'] at h7
        exact ⟨h7,(mE (most:=most) h n (d+1) sum' s' hb'.gd hc').1⟩
theorem rq {l : List Work} {crews most : Int} (hv : okV l = true) (hval : aQ l crews = true) (hl : l.length ≤ 12) : gN l crews most = ig l most := by
  have hval2:=jP hval
  have hLV:LV l:=⟨hv,hval2⟩
  unfold gN ig
  rw [hval]
  by_cases h1:1≤most
  · by_cases h2 : most ≤ 100000
    · rw [bD h1, bD h2, bp (show ¬ most < 1 by omega), bp (show ¬ (100000 : Int) < most by omega)]
      have hno:∀ k,k < l.length→List.getD (List.replicate l.length d_bool) k d_bool=true→False:=fun k hk hd=>by
        rw [al (by simpa using hk),List.getElem_replicate] at hd
        cases hd
      have hs0:∀ n k,n+k=l.length→du l (List.replicate l.length d_slot) (List.replicate l.length d_bool) n k=0:=by
        intro n
        induction n with
        | zero=>intro k _; rfl
        | succ n ih =>
          intro k hk
          simp only [du]
          rw [ih (k+1) (by omega)]
          cases hd:List.getD (List.replicate l.length d_bool) k d_bool with
          | false=>rfl
          | true=>exact (hno k (by omega) hd).elim
      have hG:Gd l (⟨0,0,false,[],List.replicate l.length d_slot,List.replicate l.length d_bool⟩:Sr) 0 0:=⟨ll l,fun k hk hd=>(hno k hk hd).elim,by rw [cI]; omega,(hs0 l.length 0 (by omega)).symm,fun hx=>by cases hx⟩
      have hB:Both l most 0 0 [] (⟨0,0,false,[],List.replicate l.length d_slot,List.replicate l.length d_bool⟩:Sr) (⟨most,[],0,false⟩:Fx):=⟨hG,⟨(fun s hs=>by cases hs),fun k hk hd=>(hno k hk hd).elim⟩,rfl,rfl,⟨by show most=most - 0; omega,Int.le_refl _,rfl,rfl,rfl⟩⟩
      have hE:=rp hLV hl h2 200 0 0 [] _ _ hB (by show 0≤most; omega) (by show bh (List.replicate l.length d_bool) < 200; rw [cI]; omega)
      have e1:aL l most 200 ((0:Nat):Int) 0 (⟨0,0,false,[],List.replicate l.length d_slot,List.replicate l.length d_bool⟩:Sr)=dj l most:=rfl
      have e2:frm l 200 [] (List.replicate l.length d_bool) (⟨most,[],0,false⟩:Fx)=fg l most:=rfl
      rw [e1] at hE
      have hE':EQ most (dj l most) (fg l most):=by rw [← e2]; exact hE
      rcases hE' with ⟨g1,g2,g3⟩ | ⟨g1,g2⟩
      · rw [g1, bp (show ¬ (fg l most).left < 0 by omega), g3.plan, g3.cost]
        rfl
      · rw [g1, bw g2]
        rfl
    · rw [gC h2, Bool.and_false, bw (show (100000 : Int) < most by omega), Bool.or_true]
      rfl
  · rw [gC h1, bw (show most < 1 by omega)]
    rfl
namespace lawSearches
noncomputable def bd:Code:=(Try.f4.body).getD .skip
noncomputable def X:Ctx U El:=⟨E,tds,zeros,eqs,aG [(9,awake.sp),(10,large.sp),(14,rvalid.sp),(15,best.sp),(16,rbest.sp),(17,equalS.sp)],100000,68,aD [],fun _=>none⟩
noncomputable def nmR:Norm U:=⟨[],[6],[],[],[],[],[]⟩
noncomputable def RR:ae U El:=fun st=>aM nmR st (aK [6] [])
noncomputable def nm1:Norm U:=⟨[],[0,1,2],[],[],[],[],[]⟩
abbrev Y1:=(List Work)→Int→Int→R
noncomputable def fr0 (l:List Work) (crews:Int) (most:Int):St U El:=⟨[(0,(.lst .work l)),(1,(.int .i64 crews)),(2,(.int .i64 most))],[]⟩
noncomputable def fr1 (l0:List Work) (aA:Int) (bA:Int):St U El:=⟨[(0,(.lst .work l0)),(1,(.int .i64 aA)),(2,(.int .i64 bA))],[]⟩
noncomputable def sh0 (l:List Work) (crews:Int) (most:Int) (k1:Y1):R :=
  ah (!(true)) (some ((.bool false),[])) (ah (eH l) (some ((.bool true),[])) (ah (ilt (400:Int) most) (ah (ile most (100000:Int)) (some ((.bool true),[])) (k1 l crews most)) (k1 l crews most)))
noncomputable def sh1 (l0:List Work) (aA:Int) (bA:Int):R :=
  chk (okV l0) (chk (okV l0) (ah (!(aQ l0 aA)) (ah ((Int.ofNat (List.length (ef l0 aA bA))) == (0:Int)) (ah ((fO l0 aA bA) == (0:Int)) (some ((.bool ((fP l0 aA bA) == (1:Int))),[])) (some ((.bool false),[]))) (some ((.bool false),[]))) (chk ((aQ l0 12&&(okV l0&&nle (List.length l0) 12))) (ah ((fP l0 aA bA) == (gb l0 bA)) (ah ((fO l0 aA bA) == (ga l0 bA)) (chk (nle (List.length (ef l0 aA bA)) 90000) (some ((.bool (eqS (ef l0 aA bA) (fZ l0 bA))),[]))) (some ((.bool false),[]))) (some ((.bool false),[]))))))
noncomputable def ct1:ae U El:=fun st=>ak X (cdp [1,1,1] bd) .d st RR (fun _ _=>none) RR
theorem P0 (l crews most):ak X (cdp [] bd) (.seq none .d (.seq none .d (.seq (some nm1) .d .d))) (fr0 l crews most) RR (fun _ _=>none) RR=sh0 l crews most (fun y0 y1 y2=>(hid ct1) (fr1 y0 y1 y2)):=by kernel_rfl
theorem P1 (l0 aA bA):ct1 (fr1 l0 aA bA)=sh1 l0 aA bA:=by kernel_rfl
noncomputable def f1 (l0:List Work) (aA:Int) (bA:Int):R:=sh1 l0 aA bA
noncomputable def f0 (l:List Work) (crews:Int) (most:Int):R:=sh0 l crews most f1
theorem T1 (l0 aA bA):(hid ct1) (fr1 l0 aA bA)=f1 l0 aA bA:=by
  refine (congrFun (am _) _).trans <| (P1 l0 aA bA).trans ?_
  show _=sh1 l0 aA bA
  rfl
theorem T0 (l crews most):ak X bd (.seq none .d (.seq none .d (.seq (some nm1) .d .d))) (fr0 l crews most) RR (fun _ _=>none) RR=f0 l crews most:=by
  refine (P0 l crews most).trans ?_
  show _=sh0 l crews most f1
  simp only [T1]
theorem run (l crews most):bg X bd (.seq none .d (.seq none .d (.seq (some nm1) .d .d))) nmR [6] [] [(.lst .work l),(.int .i64 crews),(.int .i64 most)]=f0 l crews most:=T0 l crews most
theorem f0_eq (l : List Work) (crews most : Int) : f0 l crews most = bm true := by
  show sh0 l crews most f1=_
  unfold sh0
  cases hb:eH l with
  | true=>rfl
  | false =>
    have hv:=oQ hb
    have k1 : f1 l crews most = bm true := by
      show sh1 l crews most=_
      unfold sh1
      rw [hv,cS,cS]
      cases hval:aQ l crews with
      | false =>
        have e:gN l crews most=([],0,1):=by unfold gN; rw [hval]; rfl
        have e1:fP l crews most=1:=by unfold fP; rw [e]
        have e2:ef l crews most=[]:=by unfold ef; rw [e]
        have e3:fO l crews most=0:=by unfold fO; rw [e]
        rw [e1,e2,e3]
        rfl
      | true =>
        have hl:l.length≤12:=by
          simp only [eH,Bool.or_eq_false_iff,Bool.and_eq_false_iff] at hb
          have:=(aR hval).len
          rcases hb.1 with h | h
          · have:=iI h; simp at this; omega
          · have:=qW h; simp at this; omega
        have hval2:=jP hval
        have e:=rq (most:=most) hv hval hl
        have e1:fP l crews most=gb l most:=by unfold fP gb; rw [e]
        have e2:ef l crews most=fZ l most:=by unfold ef fZ; rw [e]
        have e3:fO l crews most=ga l most:=by unfold fO ga; rw [e]
        have hlen:(ef l crews most).length≤90000:=by
          unfold ef gN
          rw [hval]
          cases (ile 1 most&&ile most 100000) with
          | false=>simp
          | true =>
            cases hr:(dj l most).1 with
            | false=>simp
            | true =>
              have:=(o8 ⟨hv,hval2⟩ hr).2.1.1.len
              show (dj l most).2.best.length≤90000
              omega
        rw [bC hlen,e1,e2,e3,hval2,bC hl,beq_self_eq_true,beq_self_eq_true,qs]
        rfl
    cases ilt (400:Int) most with
    | false=>exact k1
    | true =>
      cases ile most (100000:Int) with
      | true=>rfl
      | false=>exact k1
theorem ok:CtxOk Try.prog X:=aU tab (spC awake.spOk (spC large.spOk (spC rvalid.spOk (spC best.spOk (spC rbest.spOk (spC equalS.spOk spN)))))) dpN
theorem okM:MOk Try.prog X:=fun g sp h=>by cases h
theorem spec (l:List Work) (crews:Int) (most:Int):az Try.prog E 4 [(.lst .work l),(.int .i64 crews),(.int .i64 most)] (.bool (true)) [] :=
  aq ok okM Try.call4 Try.func4 (by kernel_rfl) (by kernel_rfl) (by kernel_rfl) (by show 3≤68; decide) (by decide) (by rfl) ((run l crews most).trans (f0_eq l crews most))
noncomputable def sp:Sp U El:=fun args k=>match args with
  | [.lst .work l,.int .i64 crews,.int .i64 most]=>k (.bool (true)) []
  | _=>none
theorem spOk:SpOk Try.prog E 4 sp where
  det:=fun vs=>by
    unfold sp
    split
    · exact ⟨some (_,_),fun _=>rfl⟩
    · exact ⟨none,fun _=>rfl⟩
  ok:=fun vs k r h=>by
    unfold sp at h
    split at h
    · exact ⟨_,_,spec _ _ _,h⟩
    · cases h
end lawSearches
end Go.Proofs.Ythdklallcljhlaa
