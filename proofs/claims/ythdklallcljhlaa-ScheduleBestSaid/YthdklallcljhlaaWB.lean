/- The search for the best plan: a closure that calls itself. -/
import Derived.Test.YthdklallcljhlaaVX
namespace Go.Proofs.Ythdklallcljhlaa
set_option linter.unusedSectionVars false
set_option linter.unusedSimpArgs false
set_option linter.unusedVariables false
set_option maxRecDepth 100000
structure Sr where
  met:Int
  least:Int
  found:Bool
  best:List Slot
  sl:List Slot
  dn:List Bool
noncomputable def plcSr (l:List Work) (s:Sr) (i c:Int):Sr:=⟨s.met,s.least,s.found,s.best,List.set s.sl (Int.toNat i) ⟨i,c,startZ l s.sl s.dn i c⟩,List.set s.dn (Int.toNat i) true⟩
noncomputable def clrSr (s:Sr) (i:Int):Sr:=⟨s.met,s.least,s.found,s.best,s.sl,List.set s.dn (Int.toNat i) false⟩
noncomputable def crewsS (rec_:Int→Sr→Bool×Sr) (l:List Work) (sum i:Int):List Int→Sr→Bool×Sr
  | [],s=>(true,s)
  | c :: t, s => bif !(rec_ (IntKind.wrap .i64 (sum + lateZ (List.getD l (Int.toNat i) d_work) (endZ l (List.getD (plcSr l s i c).sl (Int.toNat i) d_slot)))) (plcSr l s i c)).1 then (false, (rec_ (IntKind.wrap .i64 (sum + lateZ (List.getD l (Int.toNat i) d_work) (endZ l (List.getD (plcSr l s i c).sl (Int.toNat i) d_slot)))) (plcSr l s i c)).2) else
      crewsS rec_ l sum i t (clrSr (rec_ (IntKind.wrap .i64 (sum+lateZ (List.getD l (Int.toNat i) d_work) (endZ l (List.getD (plcSr l s i c).sl (Int.toNat i) d_slot)))) (plcSr l s i c)).2 i)
noncomputable def worksS (rec_:Int→Sr→Bool×Sr) (l:List Work) (sum:Int):Nat→Nat→Sr→Bool×Sr
  | 0,_,s=>(true,s)
  | m+1,k,s=>bif rdyB l s.dn (k:Int) then (bif (crewsS rec_ l sum (k:Int) (List.getD l k d_work).wc s).1 then worksS rec_ l sum m (k+1) (crewsS rec_ l sum (k:Int) (List.getD l k d_work).wc s).2 else (false,(crewsS rec_ l sum (k:Int) (List.getD l k d_work).wc s).2)) else worksS rec_ l sum m (k+1) s
noncomputable def leafS (l:List Work) (done sum:Int) (s:Sr):Sr:=bif (done == Int.ofNat l.length)&&(!s.found||ilt sum s.least) then ⟨s.met,sum,true,s.sl,s.sl,s.dn⟩ else s
noncomputable def srch (l:List Work) (most:Int):Nat→Int→Int→Sr→Bool×Sr
  | 0,_,_,s=>(true,s)
  | n+1,done,sum,s=>bif ilt most (IntKind.wrap .i64 (s.met+1)) then (false,⟨IntKind.wrap .i64 (s.met+1),s.least,s.found,s.best,s.sl,s.dn⟩) else worksS (fun sum' s'=>srch l most n (IntKind.wrap .i64 (done+1)) sum' s') l sum l.length 0 (leafS l done sum ⟨IntKind.wrap .i64 (s.met+1),s.least,s.found,s.best,s.sl,s.dn⟩)
def SrOk (l lw:List Work) (n:Nat) (done:Int) (sl:List Slot) (dn:List Bool):Prop:=lw=l∧okV l=true∧validB l 12=true∧GS l sl dn∧∃ d:Nat,done=(d:Int)∧d+cntF dn=l.length∧cntF dn < n
noncomputable def srP (l lw:List Work) (n:Nat) (done:Int) (sl:List Slot) (dn:List Bool):Bool:=@decide (SrOk l lw n done sl dn) (Classical.propDecidable _)
theorem srP_iff {l lw:List Work} {n:Nat} {done:Int} {sl:List Slot} {dn:List Bool}:srP l lw n done sl dn=true↔SrOk l lw n done sl dn:=@decide_eq_true_iff _ (Classical.propDecidable _)
theorem set_back {dn:List Bool} {q:Nat} (hq:q < dn.length) (h:List.getD dn q d_bool=false):List.set (List.set dn q true) q false=dn:=by
  rw [List.set_set]
  have:dn[q]=false:=by rw [← h,getD_lt hq]
  rw [← this]
  exact List.set_getElem_self ..
def Keeps (l:List Work) (dn:List Bool) (r:Bool×Sr):Prop:=r.1=true→r.2.dn=dn∧GS l r.2.sl dn
theorem crews_keeps {l : List Work} {rec_ : Int → Sr → Bool × Sr} {sum : Int} {q : Nat} {dn : List Bool} (hq : q < l.length) (hr : rdyB l dn (q : Int) = true) (hrec : ∀ sum' s', s'.dn = dn.set q true → GS l s'.sl s'.dn → Keeps l (dn.set q true) (rec_ sum' s')) : ∀ (cs : List Int) (s : Sr), s.dn = dn → GS l s.sl dn → Keeps l dn (crewsS rec_ l sum (q : Int) cs s) := by
  intro cs
  induction cs with
  | nil=>intro s h1 h2 _; exact ⟨h1,h2⟩
  | cons c cs ih =>
    intro s h1 h2
    simp only [crewsS]
    obtain ⟨g1,g2⟩:=GS_step h2 hq hr c (startZ l s.sl s.dn (q:Int) c)
    have hk:=hrec (IntKind.wrap .i64 (sum+lateZ (List.getD l (Int.toNat (q:Int)) d_work) (endZ l (List.getD (plcSr l s (q:Int) c).sl (Int.toNat (q:Int)) d_slot)))) (plcSr l s (q:Int) c) (by show List.set s.dn q true=_; rw [h1]) (by show GS l (List.set s.sl q _) (List.set s.dn q true); rw [h1] at g1 ⊢; exact g1)
    generalize rec_ (IntKind.wrap .i64 (sum+lateZ (List.getD l (Int.toNat (q:Int)) d_work) (endZ l (List.getD (plcSr l s (q:Int) c).sl (Int.toNat (q:Int)) d_slot)))) (plcSr l s (q:Int) c)=r at hk ⊢
    cases hb:r.1 with
    | false=>intro h; cases h
    | true =>
      obtain ⟨k1,k2⟩:=hk hb
      have hd:List.getD dn q d_bool=false:=(rdy_of hr).1
      have hback:(clrSr r.2 (q:Int)).dn=dn:=by
        show List.set r.2.dn q false=dn
        rw [k1]
        exact set_back (by rw [h2.good.1]; exact hq) hd
      exact ih _ hback ⟨k2.len,k2.sw,h2.good⟩
theorem works_keeps {l : List Work} {rec_ : Int → Sr → Bool × Sr} {sum : Int} {dn : List Bool} (hrec : ∀ q sum' s', q < l.length → rdyB l dn (q : Int) = true → s'.dn = dn.set q true → GS l s'.sl s'.dn → Keeps l (dn.set q true) (rec_ sum' s')) : ∀ (m k : Nat) (s : Sr), k + m = l.length → s.dn = dn → GS l s.sl dn → Keeps l dn (worksS rec_ l sum m k s) := by
  intro m
  induction m with
  | zero=>intro k s _ h1 h2 _; exact ⟨h1,h2⟩
  | succ m ih =>
    intro k s hk h1 h2
    simp only [worksS]
    rw [h1]
    cases hr:rdyB l dn (k:Int) with
    | false=>exact ih (k+1) s (by omega) h1 h2
    | true =>
      rw [cond_true]
      have hc:=crews_keeps (sum:=sum) (by omega) hr (fun sum' s'=>hrec k sum' s' (by omega) hr) (List.getD l k d_work).wc s h1 h2
      generalize crewsS rec_ l sum (k:Int) (List.getD l k d_work).wc s=r at hc ⊢
      cases hb:r.1 with
      | false=>intro h; cases h
      | true =>
        obtain ⟨k1,k2⟩:=hc hb
        exact ih (k+1) r.2 (by omega) k1 k2
theorem leaf_dn (l:List Work) (done sum:Int) (s:Sr):(leafS l done sum s).dn=s.dn∧(leafS l done sum s).sl=s.sl∧(leafS l done sum s).met=s.met:=by
  unfold leafS
  cases ((done == Int.ofNat l.length)&&(!s.found||ilt sum s.least))<;>exact ⟨rfl,rfl,rfl⟩
theorem srch_keeps {l : List Work} {most : Int} : ∀ (n : Nat) (done sum : Int) (s : Sr), GS l s.sl s.dn → cntF s.dn < n → Keeps l s.dn (srch l most n done sum s) := by
  intro n
  induction n with
  | zero=>intro done sum s _ h; omega
  | succ n ih =>
    intro done sum s hg hc
    simp only [srch]
    cases ilt most (IntKind.wrap .i64 (s.met+1)) with
    | true=>intro h; cases h
    | false =>
      rw [cond_false]
      obtain ⟨e1,e2,_⟩:=leaf_dn l done sum ⟨IntKind.wrap .i64 (s.met+1),s.least,s.found,s.best,s.sl,s.dn⟩
      refine works_keeps (fun q sum' s' hq hr hd hg' => ?_) l.length 0 _ (by omega) e1 (by rw [e2]; exact hg)
      have:=ih (IntKind.wrap .i64 (done+1)) sum' s' hg' (by
        rw [hd]
        have:=cnt_set s.dn q (by rw [hg.good.1]; exact hq) (rdy_of hr).1
        omega)
      rw [hd] at this
      exact this
def SrC (n:Nat):Prop:=∀ (done:Int) (sum:Int) (met:Int) (most:Int) (l:List Work) (found:Bool) (least:Int) (lw:List Work) (bs:List Slot) (sl:List Slot) (dn:List Bool),(srP l lw n done sl dn)=true→MCall Try.prog E 43 [(.int .i64 done),(.int .i64 sum),(.ptr 1000000000 0),(.ptr 1000000001 0),(.ptr 1000000002 0),(.ptr 1000000003 0),(.ptr 1000000004 0),(.ptr 1000000005 0),(.ptr 1000000006 0),(.ptr 1000000007 0)] [(1000000000,(.box 1000000000 [(.int .i64 met)])),(1000000001,(.box 1000000001 [(.int .i64 most)])),(1000000002,(.box 1000000002 [(.lst .work l)])),(1000000003,(.box 1000000003 [(.bool found)])),(1000000004,(.box 1000000004 [(.int .i64 least)])),(1000000005,(.box 1000000005 [(.ptr 1000000008 0)])),(1000000006,(.box 1000000006 [(.ful 1000000009)])),(1000000007,(.box 1000000007 [(.fn 43 [] [(.ptr 1000000000 0),(.ptr 1000000001 0),(.ptr 1000000002 0),(.ptr 1000000003 0),(.ptr 1000000004 0),(.ptr 1000000005 0),(.ptr 1000000006 0),(.ptr 1000000007 0)])])),(1000000008,(.box 1000000008 [(.lst .work lw),(.ful 1000000010),(.ful 1000000011)])),(1000000009,(.rows .slot bs)),(1000000010,(.rows .slot sl)),(1000000011,(.rows .bool dn))] (.bool ((srch l most n done sum (⟨met,least,found,bs,sl,dn⟩:Sr)).1)) [(1000000000,(.box 1000000000 [(.int .i64 (Sr.met (srch l most n done sum (⟨met,least,found,bs,sl,dn⟩:Sr)).2))])),(1000000001,(.box 1000000001 [(.int .i64 most)])),(1000000002,(.box 1000000002 [(.lst .work l)])),(1000000003,(.box 1000000003 [(.bool (Sr.found (srch l most n done sum (⟨met,least,found,bs,sl,dn⟩:Sr)).2))])),(1000000004,(.box 1000000004 [(.int .i64 (Sr.least (srch l most n done sum (⟨met,least,found,bs,sl,dn⟩:Sr)).2))])),(1000000005,(.box 1000000005 [(.ptr 1000000008 0)])),(1000000006,(.box 1000000006 [(.ful 1000000009)])),(1000000007,(.box 1000000007 [(.fn 43 [] [(.ptr 1000000000 0),(.ptr 1000000001 0),(.ptr 1000000002 0),(.ptr 1000000003 0),(.ptr 1000000004 0),(.ptr 1000000005 0),(.ptr 1000000006 0),(.ptr 1000000007 0)])])),(1000000008,(.box 1000000008 [(.lst .work lw),(.ful 1000000010),(.ful 1000000011)])),(1000000009,(.rows .slot (Sr.best (srch l most n done sum (⟨met,least,found,bs,sl,dn⟩:Sr)).2))),(1000000010,(.rows .slot (Sr.sl (srch l most n done sum (⟨met,least,found,bs,sl,dn⟩:Sr)).2))),(1000000011,(.rows .bool (Sr.dn (srch l most n done sum (⟨met,least,found,bs,sl,dn⟩:Sr)).2)))]
class BndS where
  n:Nat
  ok:SrC n
section
variable [BndS]
namespace searchR
theorem spec (done:Int) (sum:Int) (met:Int) (most:Int) (l:List Work) (found:Bool) (least:Int) (lw:List Work) (bs:List Slot) (sl:List Slot) (dn:List Bool) (h:(srP l lw BndS.n done sl dn)=true):MCall Try.prog E 43 [(.int .i64 done),(.int .i64 sum),(.ptr 1000000000 0),(.ptr 1000000001 0),(.ptr 1000000002 0),(.ptr 1000000003 0),(.ptr 1000000004 0),(.ptr 1000000005 0),(.ptr 1000000006 0),(.ptr 1000000007 0)] [(1000000000,(.box 1000000000 [(.int .i64 met)])),(1000000001,(.box 1000000001 [(.int .i64 most)])),(1000000002,(.box 1000000002 [(.lst .work l)])),(1000000003,(.box 1000000003 [(.bool found)])),(1000000004,(.box 1000000004 [(.int .i64 least)])),(1000000005,(.box 1000000005 [(.ptr 1000000008 0)])),(1000000006,(.box 1000000006 [(.ful 1000000009)])),(1000000007,(.box 1000000007 [(.fn 43 [] [(.ptr 1000000000 0),(.ptr 1000000001 0),(.ptr 1000000002 0),(.ptr 1000000003 0),(.ptr 1000000004 0),(.ptr 1000000005 0),(.ptr 1000000006 0),(.ptr 1000000007 0)])])),(1000000008,(.box 1000000008 [(.lst .work lw),(.ful 1000000010),(.ful 1000000011)])),(1000000009,(.rows .slot bs)),(1000000010,(.rows .slot sl)),(1000000011,(.rows .bool dn))] (.bool ((srch l most BndS.n done sum (⟨met,least,found,bs,sl,dn⟩:Sr)).1)) [(1000000000,(.box 1000000000 [(.int .i64 (Sr.met (srch l most BndS.n done sum (⟨met,least,found,bs,sl,dn⟩:Sr)).2))])),(1000000001,(.box 1000000001 [(.int .i64 most)])),(1000000002,(.box 1000000002 [(.lst .work l)])),(1000000003,(.box 1000000003 [(.bool (Sr.found (srch l most BndS.n done sum (⟨met,least,found,bs,sl,dn⟩:Sr)).2))])),(1000000004,(.box 1000000004 [(.int .i64 (Sr.least (srch l most BndS.n done sum (⟨met,least,found,bs,sl,dn⟩:Sr)).2))])),(1000000005,(.box 1000000005 [(.ptr 1000000008 0)])),(1000000006,(.box 1000000006 [(.ful 1000000009)])),(1000000007,(.box 1000000007 [(.fn 43 [] [(.ptr 1000000000 0),(.ptr 1000000001 0),(.ptr 1000000002 0),(.ptr 1000000003 0),(.ptr 1000000004 0),(.ptr 1000000005 0),(.ptr 1000000006 0),(.ptr 1000000007 0)])])),(1000000008,(.box 1000000008 [(.lst .work lw),(.ful 1000000010),(.ful 1000000011)])),(1000000009,(.rows .slot (Sr.best (srch l most BndS.n done sum (⟨met,least,found,bs,sl,dn⟩:Sr)).2))),(1000000010,(.rows .slot (Sr.sl (srch l most BndS.n done sum (⟨met,least,found,bs,sl,dn⟩:Sr)).2))),(1000000011,(.rows .bool (Sr.dn (srch l most BndS.n done sum (⟨met,least,found,bs,sl,dn⟩:Sr)).2)))]:=BndS.ok _ _ _ _ _ _ _ _ _ _ _ h
noncomputable def sp:MSp U El:=fun args hs k=>match args,hs with
  | [.int .i64 done,.int .i64 sum,.ptr q0 0,.ptr q1 0,.ptr q2 0,.ptr q3 0,.ptr q4 0,.ptr q5 0,.ptr q6 0,.ptr q7 0],[(q8,.box q9 [.int .i64 met]),(q10,.box q11 [.int .i64 most]),(q12,.box q13 [.lst .work l]),(q14,.box q15 [.bool found]),(q16,.box q17 [.int .i64 least]),(q18,.box q19 [.ptr q20 0]),(q21,.box q22 [.ful q23]),(q24,.box q25 [.fn 43 [] [.ptr q26 0,.ptr q27 0,.ptr q28 0,.ptr q29 0,.ptr q30 0,.ptr q31 0,.ptr q32 0,.ptr q33 0]]),(q34,.box q35 [.lst .work lw,.ful q36,.ful q37]),(q38,.rows .slot bs),(q39,.rows .slot sl),(q40,.rows .bool dn)]=>chk (Nat.beq q0 1000000000&&(Nat.beq q1 1000000001&&(Nat.beq q2 1000000002&&(Nat.beq q3 1000000003&&(Nat.beq q4 1000000004&&(Nat.beq q5 1000000005&&(Nat.beq q6 1000000006&&(Nat.beq q7 1000000007&&(Nat.beq q8 1000000000&&(Nat.beq q9 1000000000&&(Nat.beq q10 1000000001&&(Nat.beq q11 1000000001&&(Nat.beq q12 1000000002&&(Nat.beq q13 1000000002&&(Nat.beq q14 1000000003&&(Nat.beq q15 1000000003&&(Nat.beq q16 1000000004&&(Nat.beq q17 1000000004&&(Nat.beq q18 1000000005&&(Nat.beq q19 1000000005&&(Nat.beq q20 1000000008&&(Nat.beq q21 1000000006&&(Nat.beq q22 1000000006&&(Nat.beq q23 1000000009&&(Nat.beq q24 1000000007&&(Nat.beq q25 1000000007&&(Nat.beq q26 1000000000&&(Nat.beq q27 1000000001&&(Nat.beq q28 1000000002&&(Nat.beq q29 1000000003&&(Nat.beq q30 1000000004&&(Nat.beq q31 1000000005&&(Nat.beq q32 1000000006&&(Nat.beq q33 1000000007&&(Nat.beq q34 1000000008&&(Nat.beq q35 1000000008&&(Nat.beq q36 1000000010&&(Nat.beq q37 1000000011&&(Nat.beq q38 1000000009&&(Nat.beq q39 1000000010&&(Nat.beq q40 1000000011&&true))))))))))))))))))))))))))))))))))))))))) (chk (srP l lw BndS.n done sl dn) (k (.bool ((srch l most BndS.n done sum (⟨met,least,found,bs,sl,dn⟩:Sr)).1)) [(1000000000,(.box 1000000000 [(.int .i64 (Sr.met (srch l most BndS.n done sum (⟨met,least,found,bs,sl,dn⟩:Sr)).2))])),(1000000001,(.box 1000000001 [(.int .i64 most)])),(1000000002,(.box 1000000002 [(.lst .work l)])),(1000000003,(.box 1000000003 [(.bool (Sr.found (srch l most BndS.n done sum (⟨met,least,found,bs,sl,dn⟩:Sr)).2))])),(1000000004,(.box 1000000004 [(.int .i64 (Sr.least (srch l most BndS.n done sum (⟨met,least,found,bs,sl,dn⟩:Sr)).2))])),(1000000005,(.box 1000000005 [(.ptr 1000000008 0)])),(1000000006,(.box 1000000006 [(.ful 1000000009)])),(1000000007,(.box 1000000007 [(.fn 43 [] [(.ptr 1000000000 0),(.ptr 1000000001 0),(.ptr 1000000002 0),(.ptr 1000000003 0),(.ptr 1000000004 0),(.ptr 1000000005 0),(.ptr 1000000006 0),(.ptr 1000000007 0)])])),(1000000008,(.box 1000000008 [(.lst .work lw),(.ful 1000000010),(.ful 1000000011)])),(1000000009,(.rows .slot (Sr.best (srch l most BndS.n done sum (⟨met,least,found,bs,sl,dn⟩:Sr)).2))),(1000000010,(.rows .slot (Sr.sl (srch l most BndS.n done sum (⟨met,least,found,bs,sl,dn⟩:Sr)).2))),(1000000011,(.rows .bool (Sr.dn (srch l most BndS.n done sum (⟨met,least,found,bs,sl,dn⟩:Sr)).2)))]))
  | _,_=>none
theorem spOk:MSpOk Try.prog E 43 sp:=⟨Try.call43,fun args hs k r h=>by
  unfold sp at h
  split at h
  · obtain ⟨hq, hA⟩ := chk_some h
    clear h
    simp only [Bool.and_eq_true] at hq
    obtain ⟨e0,e1,e2,e3,e4,e5,e6,e7,e8,e9,e10,e11,e12,e13,e14,e15,e16,e17,e18,e19,e20,e21,e22,e23,e24,e25,e26,e27,e28,e29,e30,e31,e32,e33,e34,e35,e36,e37,e38,e39,e40,_⟩:=hq
    cases Nat.eq_of_beq_eq_true e0
    cases Nat.eq_of_beq_eq_true e1
    cases Nat.eq_of_beq_eq_true e2
    cases Nat.eq_of_beq_eq_true e3
    cases Nat.eq_of_beq_eq_true e4
    cases Nat.eq_of_beq_eq_true e5
    cases Nat.eq_of_beq_eq_true e6
    cases Nat.eq_of_beq_eq_true e7
    cases Nat.eq_of_beq_eq_true e8
    cases Nat.eq_of_beq_eq_true e9
    cases Nat.eq_of_beq_eq_true e10
    cases Nat.eq_of_beq_eq_true e11
    cases Nat.eq_of_beq_eq_true e12
    cases Nat.eq_of_beq_eq_true e13
    cases Nat.eq_of_beq_eq_true e14
    cases Nat.eq_of_beq_eq_true e15
    cases Nat.eq_of_beq_eq_true e16
    cases Nat.eq_of_beq_eq_true e17
    cases Nat.eq_of_beq_eq_true e18
    cases Nat.eq_of_beq_eq_true e19
    cases Nat.eq_of_beq_eq_true e20
    cases Nat.eq_of_beq_eq_true e21
    cases Nat.eq_of_beq_eq_true e22
    cases Nat.eq_of_beq_eq_true e23
    cases Nat.eq_of_beq_eq_true e24
    cases Nat.eq_of_beq_eq_true e25
    cases Nat.eq_of_beq_eq_true e26
    cases Nat.eq_of_beq_eq_true e27
    cases Nat.eq_of_beq_eq_true e28
    cases Nat.eq_of_beq_eq_true e29
    cases Nat.eq_of_beq_eq_true e30
    cases Nat.eq_of_beq_eq_true e31
    cases Nat.eq_of_beq_eq_true e32
    cases Nat.eq_of_beq_eq_true e33
    cases Nat.eq_of_beq_eq_true e34
    cases Nat.eq_of_beq_eq_true e35
    cases Nat.eq_of_beq_eq_true e36
    cases Nat.eq_of_beq_eq_true e37
    cases Nat.eq_of_beq_eq_true e38
    cases Nat.eq_of_beq_eq_true e39
    cases Nat.eq_of_beq_eq_true e40
    obtain ⟨h1,hB⟩:=chk_some hA
    exact ⟨_,_,spec _ _ _ _ _ _ _ _ _ _ _ h1,hB⟩
  · cases h⟩
theorem spDet:∀ args hs,∃ oo:Option (AV U El×Heap U El),∀ k,sp args hs k=oo.bind fun p=>k p.1 p.2:=fun args hs=>by
  unfold sp
  split
  · exact det_chkM (det_chkM ⟨some (_,_),fun _=>rfl⟩)
  · exact ⟨none,fun _=>rfl⟩
end searchR
noncomputable def outSr (r:Bool×Sr) (most:Int) (l lw:List Work):R:=some ((.bool r.1),[(1000000000,(.box 1000000000 [(.int .i64 r.2.met)])),(1000000001,(.box 1000000001 [(.int .i64 most)])),(1000000002,(.box 1000000002 [(.lst .work l)])),(1000000003,(.box 1000000003 [(.bool r.2.found)])),(1000000004,(.box 1000000004 [(.int .i64 r.2.least)])),(1000000005,(.box 1000000005 [(.ptr 1000000008 0)])),(1000000006,(.box 1000000006 [(.ful 1000000009)])),(1000000007,(.box 1000000007 [(.fn 43 [] [(.ptr 1000000000 0),(.ptr 1000000001 0),(.ptr 1000000002 0),(.ptr 1000000003 0),(.ptr 1000000004 0),(.ptr 1000000005 0),(.ptr 1000000006 0),(.ptr 1000000007 0)])])),(1000000008,(.box 1000000008 [(.lst .work lw),(.ful 1000000010),(.ful 1000000011)])),(1000000009,(.rows .slot r.2.best)),(1000000010,(.rows .slot r.2.sl)),(1000000011,(.rows .bool r.2.dn))])
namespace search
noncomputable def bd:Code:=(Try.f43.body).getD .skip
noncomputable def X:Ctx U El:=⟨E,tds,zeros,eqs,specOf [(21,cloneS.sp),(44,ready.sp),(46,late.sp),(47,endc.sp)],100000,92,dspecOf [(43,searchR.sp)],mspecOf [(45,(mcSp place.sp))]⟩
noncomputable def nmR:Norm U:=⟨[],[12],[1000000000,1000000001,1000000002,1000000003,1000000004,1000000005,1000000006,1000000007,1000000008,1000000009,1000000010,1000000011],[],[(1000000006,0,.slot,1000000009),(1000000008,1,.slot,1000000010),(1000000008,2,.bool,1000000011)],[],[]⟩
noncomputable def RR:Kont U El:=fun st=>normK nmR st (retM [12])
noncomputable def nm1:Norm U:=⟨[],[0,1,4,7,9],[1000000000,1000000001,1000000002,1000000003,1000000004,1000000005,1000000006,1000000007,1000000008,1000000009,1000000010,1000000011],[],[(1000000006,0,.slot,1000000009),(1000000008,1,.slot,1000000010),(1000000008,2,.bool,1000000011)],[],[(1000000002,0,.work),(1000000008,0,.work)]⟩
noncomputable def nm2:Norm U:=⟨[],[],[1000000000,1000000001,1000000002,1000000003,1000000004,1000000005,1000000006,1000000007,1000000008,1000000009,1000000010,1000000011],[],[(1000000006,0,.slot,1000000009),(1000000008,1,.slot,1000000010),(1000000008,2,.bool,1000000011)],[],[(1000000002,0,.work),(1000000008,0,.work)]⟩
noncomputable def nm3:Norm U:=⟨[],[0,1,4,7,9,41,42],[1000000000,1000000001,1000000002,1000000003,1000000004,1000000005,1000000006,1000000007,1000000008,1000000009,1000000010,1000000011],[],[(1000000006,0,.slot,1000000009),(1000000008,1,.slot,1000000010),(1000000008,2,.bool,1000000011)],[],[(1000000002,0,.work),(1000000008,0,.work)]⟩
noncomputable def nm4:Norm U:=⟨[],[0,1,4,7,9,41,42],[1000000000,1000000001,1000000002,1000000003,1000000004,1000000005,1000000006,1000000007,1000000008,1000000009,1000000010,1000000011],[],[(1000000006,0,.slot,1000000009),(1000000008,1,.slot,1000000010),(1000000008,2,.bool,1000000011)],[],[(1000000002,0,.work),(1000000008,0,.work)]⟩
noncomputable def nm5:Norm U:=⟨[],[0,1,4,7,9,13,41,42,53,54,55],[1000000000,1000000001,1000000002,1000000003,1000000004,1000000005,1000000006,1000000007,1000000008,1000000009,1000000010,1000000011],[],[(1000000006,0,.slot,1000000009),(1000000008,1,.slot,1000000010),(1000000008,2,.bool,1000000011)],[],[(1000000002,0,.work),(1000000008,0,.work)]⟩
abbrev Y1:=Int→Int→Int→Int→(List Work)→Bool→Int→(List Slot)→(List Work)→(List Slot)→(List Bool)→R
abbrev Y2:=Int→Int→(List Work)→Bool→Int→(List Slot)→(List Work)→(List Slot)→(List Bool)→R
abbrev Y3:=Int→Int→Int→Int→Int→Int→(List Work)→Bool→Int→(List Slot)→(List Work)→(List Slot)→(List Bool)→R
abbrev Y4:=Int→Int→Int→Int→Int→Int→(List Work)→Bool→Int→(List Slot)→(List Work)→(List Slot)→(List Bool)→R
abbrev Y5:=Int→Int→Int→Int→Int→(List Int)→Int→Int→Int→Int→(List Work)→Bool→Int→(List Slot)→(List Work)→(List Slot)→(List Bool)→R
noncomputable def fr0 (done:Int) (sum:Int) (met:Int) (most:Int) (l:List Work) (found:Bool) (least:Int) (lw:List Work) (bs:List Slot) (sl:List Slot) (dn:List Bool):St U El:=⟨[(0,(.int .i64 done)),(1,(.int .i64 sum)),(2,(.ptr 1000000000 0)),(3,(.ptr 1000000001 0)),(4,(.ptr 1000000002 0)),(5,(.ptr 1000000003 0)),(6,(.ptr 1000000004 0)),(7,(.ptr 1000000005 0)),(8,(.ptr 1000000006 0)),(9,(.ptr 1000000007 0))],[(1000000000,(.box 1000000000 [(.int .i64 met)])),(1000000001,(.box 1000000001 [(.int .i64 most)])),(1000000002,(.box 1000000002 [(.lst .work l)])),(1000000003,(.box 1000000003 [(.bool found)])),(1000000004,(.box 1000000004 [(.int .i64 least)])),(1000000005,(.box 1000000005 [(.ptr 1000000008 0)])),(1000000006,(.box 1000000006 [(.ful 1000000009)])),(1000000007,(.box 1000000007 [(.fn 43 [] [(.ptr 1000000000 0),(.ptr 1000000001 0),(.ptr 1000000002 0),(.ptr 1000000003 0),(.ptr 1000000004 0),(.ptr 1000000005 0),(.ptr 1000000006 0),(.ptr 1000000007 0)])])),(1000000008,(.box 1000000008 [(.lst .work lw),(.ful 1000000010),(.ful 1000000011)])),(1000000009,(.rows .slot bs)),(1000000010,(.rows .slot sl)),(1000000011,(.rows .bool dn))]⟩
noncomputable def fr1 (kA:Int) (lA:Int) (fA:Int) (eA:Int) (bA:List Work) (gA:Bool) (iA:Int) (jA:List Slot) (dA:List Work) (aA:List Slot) (cA:List Bool):St U El:=⟨[(0,(.int .i64 kA)),(1,(.int .i64 lA)),(4,(.ptr 1000000002 0)),(7,(.ptr 1000000005 0)),(9,(.ptr 1000000007 0))],[(1000000000,(.box 1000000000 [(.int .i64 fA)])),(1000000001,(.box 1000000001 [(.int .i64 eA)])),(1000000002,(.box 1000000002 [(.lst .work bA)])),(1000000003,(.box 1000000003 [(.bool gA)])),(1000000004,(.box 1000000004 [(.int .i64 iA)])),(1000000005,(.box 1000000005 [(.ptr 1000000008 0)])),(1000000006,(.box 1000000006 [(.ful 1000000009)])),(1000000007,(.box 1000000007 [(.fn 43 [] [(.ptr 1000000000 0),(.ptr 1000000001 0),(.ptr 1000000002 0),(.ptr 1000000003 0),(.ptr 1000000004 0),(.ptr 1000000005 0),(.ptr 1000000006 0),(.ptr 1000000007 0)])])),(1000000008,(.box 1000000008 [(.lst .work dA),(.ful 1000000010),(.ful 1000000011)])),(1000000009,(.rows .slot jA)),(1000000010,(.rows .slot aA)),(1000000011,(.rows .bool cA))]⟩
noncomputable def fr2 (fA:Int) (eA:Int) (bA:List Work) (gA:Bool) (iA:Int) (jA:List Slot) (dA:List Work) (aA:List Slot) (cA:List Bool):St U El:=⟨[],[(1000000000,(.box 1000000000 [(.int .i64 fA)])),(1000000001,(.box 1000000001 [(.int .i64 eA)])),(1000000002,(.box 1000000002 [(.lst .work bA)])),(1000000003,(.box 1000000003 [(.bool gA)])),(1000000004,(.box 1000000004 [(.int .i64 iA)])),(1000000005,(.box 1000000005 [(.ptr 1000000008 0)])),(1000000006,(.box 1000000006 [(.ful 1000000009)])),(1000000007,(.box 1000000007 [(.fn 43 [] [(.ptr 1000000000 0),(.ptr 1000000001 0),(.ptr 1000000002 0),(.ptr 1000000003 0),(.ptr 1000000004 0),(.ptr 1000000005 0),(.ptr 1000000006 0),(.ptr 1000000007 0)])])),(1000000008,(.box 1000000008 [(.lst .work dA),(.ful 1000000010),(.ful 1000000011)])),(1000000009,(.rows .slot jA)),(1000000010,(.rows .slot aA)),(1000000011,(.rows .bool cA))]⟩
noncomputable def fr3 (kA:Int) (lA:Int) (tA:Int) (sA:Int) (fA:Int) (eA:Int) (bA:List Work) (gA:Bool) (iA:Int) (jA:List Slot) (dA:List Work) (aA:List Slot) (cA:List Bool):St U El:=⟨[(0,(.int .i64 kA)),(1,(.int .i64 lA)),(4,(.ptr 1000000002 0)),(7,(.ptr 1000000005 0)),(9,(.ptr 1000000007 0)),(41,(.int .i64 tA)),(42,(.int .i64 sA))],[(1000000000,(.box 1000000000 [(.int .i64 fA)])),(1000000001,(.box 1000000001 [(.int .i64 eA)])),(1000000002,(.box 1000000002 [(.lst .work bA)])),(1000000003,(.box 1000000003 [(.bool gA)])),(1000000004,(.box 1000000004 [(.int .i64 iA)])),(1000000005,(.box 1000000005 [(.ptr 1000000008 0)])),(1000000006,(.box 1000000006 [(.ful 1000000009)])),(1000000007,(.box 1000000007 [(.fn 43 [] [(.ptr 1000000000 0),(.ptr 1000000001 0),(.ptr 1000000002 0),(.ptr 1000000003 0),(.ptr 1000000004 0),(.ptr 1000000005 0),(.ptr 1000000006 0),(.ptr 1000000007 0)])])),(1000000008,(.box 1000000008 [(.lst .work dA),(.ful 1000000010),(.ful 1000000011)])),(1000000009,(.rows .slot jA)),(1000000010,(.rows .slot aA)),(1000000011,(.rows .bool cA))]⟩
noncomputable def fr4 (kA:Int) (lA:Int) (tA:Int) (sA:Int) (fA:Int) (eA:Int) (bA:List Work) (gA:Bool) (iA:Int) (jA:List Slot) (dA:List Work) (aA:List Slot) (cA:List Bool):St U El:=⟨[(0,(.int .i64 kA)),(1,(.int .i64 lA)),(4,(.ptr 1000000002 0)),(7,(.ptr 1000000005 0)),(9,(.ptr 1000000007 0)),(41,(.int .i64 tA)),(42,(.int .i64 sA))],[(1000000000,(.box 1000000000 [(.int .i64 fA)])),(1000000001,(.box 1000000001 [(.int .i64 eA)])),(1000000002,(.box 1000000002 [(.lst .work bA)])),(1000000003,(.box 1000000003 [(.bool gA)])),(1000000004,(.box 1000000004 [(.int .i64 iA)])),(1000000005,(.box 1000000005 [(.ptr 1000000008 0)])),(1000000006,(.box 1000000006 [(.ful 1000000009)])),(1000000007,(.box 1000000007 [(.fn 43 [] [(.ptr 1000000000 0),(.ptr 1000000001 0),(.ptr 1000000002 0),(.ptr 1000000003 0),(.ptr 1000000004 0),(.ptr 1000000005 0),(.ptr 1000000006 0),(.ptr 1000000007 0)])])),(1000000008,(.box 1000000008 [(.lst .work dA),(.ful 1000000010),(.ful 1000000011)])),(1000000009,(.rows .slot jA)),(1000000010,(.rows .slot aA)),(1000000011,(.rows .bool cA))]⟩
noncomputable def fr5 (kA:Int) (lA:Int) (mA:Int) (tA:Int) (sA:Int) (qA:List Int) (aB:Int) (pA:Int) (fA:Int) (eA:Int) (bA:List Work) (gA:Bool) (iA:Int) (jA:List Slot) (dA:List Work) (aA:List Slot) (cA:List Bool):St U El:=⟨[(0,(.int .i64 kA)),(1,(.int .i64 lA)),(4,(.ptr 1000000002 0)),(7,(.ptr 1000000005 0)),(9,(.ptr 1000000007 0)),(13,(.int .i64 mA)),(41,(.int .i64 tA)),(42,(.int .i64 sA)),(53,(.lst .int qA)),(54,(.int .i64 aB)),(55,(.int .i64 pA))],[(1000000000,(.box 1000000000 [(.int .i64 fA)])),(1000000001,(.box 1000000001 [(.int .i64 eA)])),(1000000002,(.box 1000000002 [(.lst .work bA)])),(1000000003,(.box 1000000003 [(.bool gA)])),(1000000004,(.box 1000000004 [(.int .i64 iA)])),(1000000005,(.box 1000000005 [(.ptr 1000000008 0)])),(1000000006,(.box 1000000006 [(.ful 1000000009)])),(1000000007,(.box 1000000007 [(.fn 43 [] [(.ptr 1000000000 0),(.ptr 1000000001 0),(.ptr 1000000002 0),(.ptr 1000000003 0),(.ptr 1000000004 0),(.ptr 1000000005 0),(.ptr 1000000006 0),(.ptr 1000000007 0)])])),(1000000008,(.box 1000000008 [(.lst .work dA),(.ful 1000000010),(.ful 1000000011)])),(1000000009,(.rows .slot jA)),(1000000010,(.rows .slot aA)),(1000000011,(.rows .bool cA))]⟩
noncomputable def sh0 (done:Int) (sum:Int) (met:Int) (most:Int) (l:List Work) (found:Bool) (least:Int) (lw:List Work) (bs:List Slot) (sl:List Slot) (dn:List Bool) (k1:Y1):R :=
  condB (ilt most (IntKind.wrap .i64 (met+(1:Int)))) (some ((.bool false),[(1000000000,(.box 1000000000 [(.int .i64 (IntKind.wrap .i64 (met+(1:Int))))])),(1000000001,(.box 1000000001 [(.int .i64 most)])),(1000000002,(.box 1000000002 [(.lst .work l)])),(1000000003,(.box 1000000003 [(.bool found)])),(1000000004,(.box 1000000004 [(.int .i64 least)])),(1000000005,(.box 1000000005 [(.ptr 1000000008 0)])),(1000000006,(.box 1000000006 [(.ful 1000000009)])),(1000000007,(.box 1000000007 [(.fn 43 [] [(.ptr 1000000000 0),(.ptr 1000000001 0),(.ptr 1000000002 0),(.ptr 1000000003 0),(.ptr 1000000004 0),(.ptr 1000000005 0),(.ptr 1000000006 0),(.ptr 1000000007 0)])])),(1000000008,(.box 1000000008 [(.lst .work lw),(.ful 1000000010),(.ful 1000000011)])),(1000000009,(.rows .slot bs)),(1000000010,(.rows .slot sl)),(1000000011,(.rows .bool dn))])) (condB (done == (Int.ofNat (List.length l))) (condB (!found) (chk (nle (List.length sl) 90000) (k1 done sum (IntKind.wrap .i64 (met+(1:Int))) most l true sum (sl) lw sl dn)) (condB (ilt sum least) (chk (nle (List.length sl) 90000) (k1 done sum (IntKind.wrap .i64 (met+(1:Int))) most l true sum (sl) lw sl dn)) (k1 done sum (IntKind.wrap .i64 (met+(1:Int))) most l found least bs lw sl dn))) (k1 done sum (IntKind.wrap .i64 (met+(1:Int))) most l found least bs lw sl dn))
noncomputable def sh1 (kA:Int) (lA:Int) (fA:Int) (eA:Int) (bA:List Work) (gA:Bool) (iA:Int) (jA:List Slot) (dA:List Work) (aA:List Slot) (cA:List Bool) (k3:Y3):R :=
  k3 kA lA (Int.ofNat (List.length bA)) (0:Int) fA eA bA gA iA jA dA aA cA
noncomputable def sh2 (fA:Int) (eA:Int) (bA:List Work) (gA:Bool) (iA:Int) (jA:List Slot) (dA:List Work) (aA:List Slot) (cA:List Bool):R :=
  some ((.bool true),[(1000000000,(.box 1000000000 [(.int .i64 fA)])),(1000000001,(.box 1000000001 [(.int .i64 eA)])),(1000000002,(.box 1000000002 [(.lst .work bA)])),(1000000003,(.box 1000000003 [(.bool gA)])),(1000000004,(.box 1000000004 [(.int .i64 iA)])),(1000000005,(.box 1000000005 [(.ptr 1000000008 0)])),(1000000006,(.box 1000000006 [(.ful 1000000009)])),(1000000007,(.box 1000000007 [(.fn 43 [] [(.ptr 1000000000 0),(.ptr 1000000001 0),(.ptr 1000000002 0),(.ptr 1000000003 0),(.ptr 1000000004 0),(.ptr 1000000005 0),(.ptr 1000000006 0),(.ptr 1000000007 0)])])),(1000000008,(.box 1000000008 [(.lst .work dA),(.ful 1000000010),(.ful 1000000011)])),(1000000009,(.rows .slot jA)),(1000000010,(.rows .slot aA)),(1000000011,(.rows .bool cA))])
noncomputable def sh3 (kA:Int) (lA:Int) (tA:Int) (sA:Int) (fA:Int) (eA:Int) (bA:List Work) (gA:Bool) (iA:Int) (jA:List Slot) (dA:List Work) (aA:List Slot) (cA:List Bool) (k2:Y2) (k4:Y4) (k5:Y5):R :=
  condB (ilt sA tA) (chk (okR dA cA sA) (condB (!(rdyB dA cA sA)) (k4 kA lA tA sA fA eA bA gA iA jA dA aA cA) (chk (inb sA (List.length bA)) (k5 kA lA sA tA sA ((List.getD bA (Int.toNat sA) d_work).wc) (Int.ofNat (List.length ((List.getD bA (Int.toNat sA) d_work).wc))) (0:Int) fA eA bA gA iA jA dA aA cA)))) (k2 fA eA bA gA iA jA dA aA cA)
noncomputable def sh4 (kA:Int) (lA:Int) (tA:Int) (sA:Int) (fA:Int) (eA:Int) (bA:List Work) (gA:Bool) (iA:Int) (jA:List Slot) (dA:List Work) (aA:List Slot) (cA:List Bool) (k3:Y3):R :=
  k3 kA lA tA (IntKind.wrap .i64 (sA+(1:Int))) fA eA bA gA iA jA dA aA cA
noncomputable def sh5 (kA:Int) (lA:Int) (mA:Int) (tA:Int) (sA:Int) (qA:List Int) (aB:Int) (pA:Int) (fA:Int) (eA:Int) (bA:List Work) (gA:Bool) (iA:Int) (jA:List Slot) (dA:List Work) (aA:List Slot) (cA:List Bool) (k4:Y4) (k5:Y5):R :=
  condB (ilt pA aB) (chk (inb pA (List.length qA)) (chk (okS dA aA cA mA) (chk (inb mA (List.length bA)) (chk (inb mA (List.length (List.set aA (Int.toNat mA) (⟨mA,(List.getD qA (Int.toNat pA) d_int),startZ dA aA cA mA (List.getD qA (Int.toNat pA) d_int)⟩:Slot)))) (chk (nlt (Int.toNat mA) (List.length (List.set aA (Int.toNat mA) (⟨mA,(List.getD qA (Int.toNat pA) d_int),startZ dA aA cA mA (List.getD qA (Int.toNat pA) d_int)⟩:Slot)))) (chk (inb (Slot.sw (List.getD (List.set aA (Int.toNat mA) (⟨mA,(List.getD qA (Int.toNat pA) d_int),startZ dA aA cA mA (List.getD qA (Int.toNat pA) d_int)⟩:Slot)) (Int.toNat mA) d_slot)) (List.length bA)) (chk (srP bA dA BndS.n (IntKind.wrap .i64 (kA+(1:Int))) (List.set aA (Int.toNat mA) (⟨mA,(List.getD qA (Int.toNat pA) d_int),startZ dA aA cA mA (List.getD qA (Int.toNat pA) d_int)⟩:Slot)) (List.set cA (Int.toNat mA) true)) (condB (!((srch bA eA BndS.n (IntKind.wrap .i64 (kA+(1:Int))) (IntKind.wrap .i64 (lA+(lateZ (List.getD bA (Int.toNat mA) d_work) (endZ bA (List.getD (List.set aA (Int.toNat mA) (⟨mA,(List.getD qA (Int.toNat pA) d_int),startZ dA aA cA mA (List.getD qA (Int.toNat pA) d_int)⟩:Slot)) (Int.toNat mA) d_slot))))) (⟨fA,iA,gA,jA,(List.set aA (Int.toNat mA) (⟨mA,(List.getD qA (Int.toNat pA) d_int),startZ dA aA cA mA (List.getD qA (Int.toNat pA) d_int)⟩:Slot)),(List.set cA (Int.toNat mA) true)⟩:Sr)).1)) (some ((.bool false),[(1000000000,(.box 1000000000 [(.int .i64 (Sr.met (srch bA eA BndS.n (IntKind.wrap .i64 (kA+(1:Int))) (IntKind.wrap .i64 (lA+(lateZ (List.getD bA (Int.toNat mA) d_work) (endZ bA (List.getD (List.set aA (Int.toNat mA) (⟨mA,(List.getD qA (Int.toNat pA) d_int),startZ dA aA cA mA (List.getD qA (Int.toNat pA) d_int)⟩:Slot)) (Int.toNat mA) d_slot))))) (⟨fA,iA,gA,jA,(List.set aA (Int.toNat mA) (⟨mA,(List.getD qA (Int.toNat pA) d_int),startZ dA aA cA mA (List.getD qA (Int.toNat pA) d_int)⟩:Slot)),(List.set cA (Int.toNat mA) true)⟩:Sr)).2))])),(1000000001,(.box 1000000001 [(.int .i64 eA)])),(1000000002,(.box 1000000002 [(.lst .work bA)])),(1000000003,(.box 1000000003 [(.bool (Sr.found (srch bA eA BndS.n (IntKind.wrap .i64 (kA+(1:Int))) (IntKind.wrap .i64 (lA+(lateZ (List.getD bA (Int.toNat mA) d_work) (endZ bA (List.getD (List.set aA (Int.toNat mA) (⟨mA,(List.getD qA (Int.toNat pA) d_int),startZ dA aA cA mA (List.getD qA (Int.toNat pA) d_int)⟩:Slot)) (Int.toNat mA) d_slot))))) (⟨fA,iA,gA,jA,(List.set aA (Int.toNat mA) (⟨mA,(List.getD qA (Int.toNat pA) d_int),startZ dA aA cA mA (List.getD qA (Int.toNat pA) d_int)⟩:Slot)),(List.set cA (Int.toNat mA) true)⟩:Sr)).2))])),(1000000004,(.box 1000000004 [(.int .i64 (Sr.least (srch bA eA BndS.n (IntKind.wrap .i64 (kA+(1:Int))) (IntKind.wrap .i64 (lA+(lateZ (List.getD bA (Int.toNat mA) d_work) (endZ bA (List.getD (List.set aA (Int.toNat mA) (⟨mA,(List.getD qA (Int.toNat pA) d_int),startZ dA aA cA mA (List.getD qA (Int.toNat pA) d_int)⟩:Slot)) (Int.toNat mA) d_slot))))) (⟨fA,iA,gA,jA,(List.set aA (Int.toNat mA) (⟨mA,(List.getD qA (Int.toNat pA) d_int),startZ dA aA cA mA (List.getD qA (Int.toNat pA) d_int)⟩:Slot)),(List.set cA (Int.toNat mA) true)⟩:Sr)).2))])),(1000000005,(.box 1000000005 [(.ptr 1000000008 0)])),(1000000006,(.box 1000000006 [(.ful 1000000009)])),(1000000007,(.box 1000000007 [(.fn 43 [] [(.ptr 1000000000 0),(.ptr 1000000001 0),(.ptr 1000000002 0),(.ptr 1000000003 0),(.ptr 1000000004 0),(.ptr 1000000005 0),(.ptr 1000000006 0),(.ptr 1000000007 0)])])),(1000000008,(.box 1000000008 [(.lst .work dA),(.ful 1000000010),(.ful 1000000011)])),(1000000009,(.rows .slot (Sr.best (srch bA eA BndS.n (IntKind.wrap .i64 (kA+(1:Int))) (IntKind.wrap .i64 (lA+(lateZ (List.getD bA (Int.toNat mA) d_work) (endZ bA (List.getD (List.set aA (Int.toNat mA) (⟨mA,(List.getD qA (Int.toNat pA) d_int),startZ dA aA cA mA (List.getD qA (Int.toNat pA) d_int)⟩:Slot)) (Int.toNat mA) d_slot))))) (⟨fA,iA,gA,jA,(List.set aA (Int.toNat mA) (⟨mA,(List.getD qA (Int.toNat pA) d_int),startZ dA aA cA mA (List.getD qA (Int.toNat pA) d_int)⟩:Slot)),(List.set cA (Int.toNat mA) true)⟩:Sr)).2))),(1000000010,(.rows .slot (Sr.sl (srch bA eA BndS.n (IntKind.wrap .i64 (kA+(1:Int))) (IntKind.wrap .i64 (lA+(lateZ (List.getD bA (Int.toNat mA) d_work) (endZ bA (List.getD (List.set aA (Int.toNat mA) (⟨mA,(List.getD qA (Int.toNat pA) d_int),startZ dA aA cA mA (List.getD qA (Int.toNat pA) d_int)⟩:Slot)) (Int.toNat mA) d_slot))))) (⟨fA,iA,gA,jA,(List.set aA (Int.toNat mA) (⟨mA,(List.getD qA (Int.toNat pA) d_int),startZ dA aA cA mA (List.getD qA (Int.toNat pA) d_int)⟩:Slot)),(List.set cA (Int.toNat mA) true)⟩:Sr)).2))),(1000000011,(.rows .bool (Sr.dn (srch bA eA BndS.n (IntKind.wrap .i64 (kA+(1:Int))) (IntKind.wrap .i64 (lA+(lateZ (List.getD bA (Int.toNat mA) d_work) (endZ bA (List.getD (List.set aA (Int.toNat mA) (⟨mA,(List.getD qA (Int.toNat pA) d_int),startZ dA aA cA mA (List.getD qA (Int.toNat pA) d_int)⟩:Slot)) (Int.toNat mA) d_slot))))) (⟨fA,iA,gA,jA,(List.set aA (Int.toNat mA) (⟨mA,(List.getD qA (Int.toNat pA) d_int),startZ dA aA cA mA (List.getD qA (Int.toNat pA) d_int)⟩:Slot)),(List.set cA (Int.toNat mA) true)⟩:Sr)).2)))])) (chk (inb mA (List.length (Sr.dn (srch bA eA BndS.n (IntKind.wrap .i64 (kA+(1:Int))) (IntKind.wrap .i64 (lA+(lateZ (List.getD bA (Int.toNat mA) d_work) (endZ bA (List.getD (List.set aA (Int.toNat mA) (⟨mA,(List.getD qA (Int.toNat pA) d_int),startZ dA aA cA mA (List.getD qA (Int.toNat pA) d_int)⟩:Slot)) (Int.toNat mA) d_slot))))) (⟨fA,iA,gA,jA,(List.set aA (Int.toNat mA) (⟨mA,(List.getD qA (Int.toNat pA) d_int),startZ dA aA cA mA (List.getD qA (Int.toNat pA) d_int)⟩:Slot)),(List.set cA (Int.toNat mA) true)⟩:Sr)).2))) (chk (nlt (Int.toNat mA) (List.length (Sr.dn (srch bA eA BndS.n (IntKind.wrap .i64 (kA+(1:Int))) (IntKind.wrap .i64 (lA+(lateZ (List.getD bA (Int.toNat mA) d_work) (endZ bA (List.getD (List.set aA (Int.toNat mA) (⟨mA,(List.getD qA (Int.toNat pA) d_int),startZ dA aA cA mA (List.getD qA (Int.toNat pA) d_int)⟩:Slot)) (Int.toNat mA) d_slot))))) (⟨fA,iA,gA,jA,(List.set aA (Int.toNat mA) (⟨mA,(List.getD qA (Int.toNat pA) d_int),startZ dA aA cA mA (List.getD qA (Int.toNat pA) d_int)⟩:Slot)),(List.set cA (Int.toNat mA) true)⟩:Sr)).2))&&true) (k5 kA lA mA tA sA qA aB (IntKind.wrap .i64 (pA+(1:Int))) (Sr.met (srch bA eA BndS.n (IntKind.wrap .i64 (kA+(1:Int))) (IntKind.wrap .i64 (lA+(lateZ (List.getD bA (Int.toNat mA) d_work) (endZ bA (List.getD (List.set aA (Int.toNat mA) (⟨mA,(List.getD qA (Int.toNat pA) d_int),startZ dA aA cA mA (List.getD qA (Int.toNat pA) d_int)⟩:Slot)) (Int.toNat mA) d_slot))))) (⟨fA,iA,gA,jA,(List.set aA (Int.toNat mA) (⟨mA,(List.getD qA (Int.toNat pA) d_int),startZ dA aA cA mA (List.getD qA (Int.toNat pA) d_int)⟩:Slot)),(List.set cA (Int.toNat mA) true)⟩:Sr)).2) eA bA (Sr.found (srch bA eA BndS.n (IntKind.wrap .i64 (kA+(1:Int))) (IntKind.wrap .i64 (lA+(lateZ (List.getD bA (Int.toNat mA) d_work) (endZ bA (List.getD (List.set aA (Int.toNat mA) (⟨mA,(List.getD qA (Int.toNat pA) d_int),startZ dA aA cA mA (List.getD qA (Int.toNat pA) d_int)⟩:Slot)) (Int.toNat mA) d_slot))))) (⟨fA,iA,gA,jA,(List.set aA (Int.toNat mA) (⟨mA,(List.getD qA (Int.toNat pA) d_int),startZ dA aA cA mA (List.getD qA (Int.toNat pA) d_int)⟩:Slot)),(List.set cA (Int.toNat mA) true)⟩:Sr)).2) (Sr.least (srch bA eA BndS.n (IntKind.wrap .i64 (kA+(1:Int))) (IntKind.wrap .i64 (lA+(lateZ (List.getD bA (Int.toNat mA) d_work) (endZ bA (List.getD (List.set aA (Int.toNat mA) (⟨mA,(List.getD qA (Int.toNat pA) d_int),startZ dA aA cA mA (List.getD qA (Int.toNat pA) d_int)⟩:Slot)) (Int.toNat mA) d_slot))))) (⟨fA,iA,gA,jA,(List.set aA (Int.toNat mA) (⟨mA,(List.getD qA (Int.toNat pA) d_int),startZ dA aA cA mA (List.getD qA (Int.toNat pA) d_int)⟩:Slot)),(List.set cA (Int.toNat mA) true)⟩:Sr)).2) (Sr.best (srch bA eA BndS.n (IntKind.wrap .i64 (kA+(1:Int))) (IntKind.wrap .i64 (lA+(lateZ (List.getD bA (Int.toNat mA) d_work) (endZ bA (List.getD (List.set aA (Int.toNat mA) (⟨mA,(List.getD qA (Int.toNat pA) d_int),startZ dA aA cA mA (List.getD qA (Int.toNat pA) d_int)⟩:Slot)) (Int.toNat mA) d_slot))))) (⟨fA,iA,gA,jA,(List.set aA (Int.toNat mA) (⟨mA,(List.getD qA (Int.toNat pA) d_int),startZ dA aA cA mA (List.getD qA (Int.toNat pA) d_int)⟩:Slot)),(List.set cA (Int.toNat mA) true)⟩:Sr)).2) dA (Sr.sl (srch bA eA BndS.n (IntKind.wrap .i64 (kA+(1:Int))) (IntKind.wrap .i64 (lA+(lateZ (List.getD bA (Int.toNat mA) d_work) (endZ bA (List.getD (List.set aA (Int.toNat mA) (⟨mA,(List.getD qA (Int.toNat pA) d_int),startZ dA aA cA mA (List.getD qA (Int.toNat pA) d_int)⟩:Slot)) (Int.toNat mA) d_slot))))) (⟨fA,iA,gA,jA,(List.set aA (Int.toNat mA) (⟨mA,(List.getD qA (Int.toNat pA) d_int),startZ dA aA cA mA (List.getD qA (Int.toNat pA) d_int)⟩:Slot)),(List.set cA (Int.toNat mA) true)⟩:Sr)).2) (List.set (Sr.dn (srch bA eA BndS.n (IntKind.wrap .i64 (kA+(1:Int))) (IntKind.wrap .i64 (lA+(lateZ (List.getD bA (Int.toNat mA) d_work) (endZ bA (List.getD (List.set aA (Int.toNat mA) (⟨mA,(List.getD qA (Int.toNat pA) d_int),startZ dA aA cA mA (List.getD qA (Int.toNat pA) d_int)⟩:Slot)) (Int.toNat mA) d_slot))))) (⟨fA,iA,gA,jA,(List.set aA (Int.toNat mA) (⟨mA,(List.getD qA (Int.toNat pA) d_int),startZ dA aA cA mA (List.getD qA (Int.toNat pA) d_int)⟩:Slot)),(List.set cA (Int.toNat mA) true)⟩:Sr)).2) (Int.toNat mA) false)))))))))))) (k4 kA lA tA sA fA eA bA gA iA jA dA aA cA)
noncomputable def it3 (Kb2:Kont U El) (n:Nat):Kont U El:=iter nm3 (fun st' K'=>exec X (cdp [1,1,1,0,1,0,0] bd) (.seq none .d (.seq none .d (.seq (some nm4) (.block (.seq none .d (.seq none .d (.seq none .d (.block (.loop nm5 (.seq none .d (.seq none .d (.seq none (.block (.seq none .d (.seq none .d (.seq none (.seq none (.region [(19,1000000000),(19,1000000001),(19,1000000002),(19,1000000003),(19,1000000004),(19,1000000005),(19,1000000006),(19,1000000007),(19,1000000008),(19,1000000009),(19,1000000010),(19,1000000011)]) .d) .d)))) .d))))))))) .d))) st' K' (Eblk 0 (cutK nm2 Kb2) (fun _ _=>none)) RR) n
noncomputable def it5 (Kb2 Kb4:Kont U El) (n:Nat):Kont U El:=iter nm5 (fun st' K'=>exec X (cdp [1,1,1,0,1,0,0,1,1,0,0,1,1,1,0,0] bd) (.seq none .d (.seq none .d (.seq none (.block (.seq none .d (.seq none .d (.seq none (.seq none (.region [(19,1000000000),(19,1000000001),(19,1000000002),(19,1000000003),(19,1000000004),(19,1000000005),(19,1000000006),(19,1000000007),(19,1000000008),(19,1000000009),(19,1000000010),(19,1000000011)]) .d) .d)))) .d))) st' K' (Eblk 2 (cutK nm4 Kb4) (Eblk 1 (cutK nm4 Kb4) (Eblk 0 (cutK nm2 Kb2) (fun _ _=>none)))) RR) n
noncomputable def ct1:Kont U El:=fun st=>exec X (cdp [1,1,1] bd) (.seq (some nm2) (.seq none .d (.block (.loop nm3 (.seq none .d (.seq none .d (.seq (some nm4) (.block (.seq none .d (.seq none .d (.seq none .d (.block (.loop nm5 (.seq none .d (.seq none .d (.seq none (.block (.seq none .d (.seq none .d (.seq none (.seq none (.region [(19,1000000000),(19,1000000001),(19,1000000002),(19,1000000003),(19,1000000004),(19,1000000005),(19,1000000006),(19,1000000007),(19,1000000008),(19,1000000009),(19,1000000010),(19,1000000011)]) .d) .d)))) .d))))))))) .d)))))) .d) st RR (fun _ _=>none) RR
noncomputable def ct2:Kont U El:=fun st=>exec X (cdp [1,1,1,1] bd) .d st RR (fun _ _=>none) RR
noncomputable def ct4 (Kb2 Kb3:Kont U El):Kont U El:=fun st=>exec X (cdp [1,1,1,0,1,0,0,1,1,1] bd) .d st (cutK nm3 Kb3) (Eblk 0 (cutK nm2 Kb2) (fun _ _=>none)) RR
theorem P0 (done sum met most l found least lw bs sl dn):exec X (cdp [] bd) (.seq none .d (.seq none .d (.seq (some nm1) .d (.seq (some nm2) (.seq none .d (.block (.loop nm3 (.seq none .d (.seq none .d (.seq (some nm4) (.block (.seq none .d (.seq none .d (.seq none .d (.block (.loop nm5 (.seq none .d (.seq none .d (.seq none (.block (.seq none .d (.seq none .d (.seq none (.seq none (.region [(19,1000000000),(19,1000000001),(19,1000000002),(19,1000000003),(19,1000000004),(19,1000000005),(19,1000000006),(19,1000000007),(19,1000000008),(19,1000000009),(19,1000000010),(19,1000000011)]) .d) .d)))) .d))))))))) .d)))))) .d)))) (fr0 done sum met most l found least lw bs sl dn) RR (fun _ _=>none) RR=sh0 done sum met most l found least lw bs sl dn (fun y0 y1 y2 y3 y4 y5 y6 y7 y8 y9 y10=>(hid ct1) (fr1 y0 y1 y2 y3 y4 y5 y6 y7 y8 y9 y10)):=by kernel_rfl
theorem P1 (kA lA fA eA bA gA iA jA dA aA cA):ct1 (fr1 kA lA fA eA bA gA iA jA dA aA cA)=sh1 kA lA fA eA bA gA iA jA dA aA cA (fun y0 y1 y2 y3 y4 y5 y6 y7 y8 y9 y10 y11 y12=>(hid (it3 (hid ct2) 100000)) (fr3 y0 y1 y2 y3 y4 y5 y6 y7 y8 y9 y10 y11 y12)):=by kernel_rfl
theorem P2 (fA eA bA gA iA jA dA aA cA):ct2 (fr2 fA eA bA gA iA jA dA aA cA)=sh2 fA eA bA gA iA jA dA aA cA:=by kernel_rfl
theorem P3 (kA lA tA sA fA eA bA gA iA jA dA aA cA) (Kb2 Kb3:Kont U El):exec X (cdp [1,1,1,0,1,0,0] bd) (.seq none .d (.seq none .d (.seq (some nm4) (.block (.seq none .d (.seq none .d (.seq none .d (.block (.loop nm5 (.seq none .d (.seq none .d (.seq none (.block (.seq none .d (.seq none .d (.seq none (.seq none (.region [(19,1000000000),(19,1000000001),(19,1000000002),(19,1000000003),(19,1000000004),(19,1000000005),(19,1000000006),(19,1000000007),(19,1000000008),(19,1000000009),(19,1000000010),(19,1000000011)]) .d) .d)))) .d))))))))) .d))) (fr3 kA lA tA sA fA eA bA gA iA jA dA aA cA) (cutK nm3 Kb3) (Eblk 0 (cutK nm2 Kb2) (fun _ _=>none)) RR=sh3 kA lA tA sA fA eA bA gA iA jA dA aA cA (fun y0 y1 y2 y3 y4 y5 y6 y7 y8=>Kb2 (fr2 y0 y1 y2 y3 y4 y5 y6 y7 y8)) (fun y0 y1 y2 y3 y4 y5 y6 y7 y8 y9 y10 y11 y12=>(hid (ct4 Kb2 Kb3)) (fr4 y0 y1 y2 y3 y4 y5 y6 y7 y8 y9 y10 y11 y12)) (fun y0 y1 y2 y3 y4 y5 y6 y7 y8 y9 y10 y11 y12 y13 y14 y15 y16=>(hid (it5 Kb2 (hid (ct4 Kb2 Kb3)) 100000)) (fr5 y0 y1 y2 y3 y4 y5 y6 y7 y8 y9 y10 y11 y12 y13 y14 y15 y16)):=by kernel_rfl
theorem P4 (kA lA tA sA fA eA bA gA iA jA dA aA cA) (Kb2 Kb3:Kont U El):ct4 Kb2 Kb3 (fr4 kA lA tA sA fA eA bA gA iA jA dA aA cA)=sh4 kA lA tA sA fA eA bA gA iA jA dA aA cA (fun y0 y1 y2 y3 y4 y5 y6 y7 y8 y9 y10 y11 y12=>Kb3 (fr3 y0 y1 y2 y3 y4 y5 y6 y7 y8 y9 y10 y11 y12)):=by kernel_rfl
theorem P5 (kA lA mA tA sA qA aB pA fA eA bA gA iA jA dA aA cA) (Kb2 Kb4 Kb5:Kont U El):exec X (cdp [1,1,1,0,1,0,0,1,1,0,0,1,1,1,0,0] bd) (.seq none .d (.seq none .d (.seq none (.block (.seq none .d (.seq none .d (.seq none (.seq none (.region [(19,1000000000),(19,1000000001),(19,1000000002),(19,1000000003),(19,1000000004),(19,1000000005),(19,1000000006),(19,1000000007),(19,1000000008),(19,1000000009),(19,1000000010),(19,1000000011)]) .d) .d)))) .d))) (fr5 kA lA mA tA sA qA aB pA fA eA bA gA iA jA dA aA cA) (cutK nm5 Kb5) (Eblk 2 (cutK nm4 Kb4) (Eblk 1 (cutK nm4 Kb4) (Eblk 0 (cutK nm2 Kb2) (fun _ _=>none)))) RR=sh5 kA lA mA tA sA qA aB pA fA eA bA gA iA jA dA aA cA (fun y0 y1 y2 y3 y4 y5 y6 y7 y8 y9 y10 y11 y12=>Kb4 (fr4 y0 y1 y2 y3 y4 y5 y6 y7 y8 y9 y10 y11 y12)) (fun y0 y1 y2 y3 y4 y5 y6 y7 y8 y9 y10 y11 y12 y13 y14 y15 y16=>Kb5 (fr5 y0 y1 y2 y3 y4 y5 y6 y7 y8 y9 y10 y11 y12 y13 y14 y15 y16)):=by kernel_rfl
noncomputable def f2 (fA:Int) (eA:Int) (bA:List Work) (gA:Bool) (iA:Int) (jA:List Slot) (dA:List Work) (aA:List Slot) (cA:List Bool):R:=sh2 fA eA bA gA iA jA dA aA cA
noncomputable def f4 (k3:Y3) (kA:Int) (lA:Int) (tA:Int) (sA:Int) (fA:Int) (eA:Int) (bA:List Work) (gA:Bool) (iA:Int) (jA:List Slot) (dA:List Work) (aA:List Slot) (cA:List Bool):R:=sh4 kA lA tA sA fA eA bA gA iA jA dA aA cA k3
noncomputable def f5 (k3:Y3):Nat→Y5
  | 0=>fun _ _ _ _ _ _ _ _ _ _ _ _ _ _ _ _ _=>none
  | n+1=>fun kA lA mA tA sA qA aB pA fA eA bA gA iA jA dA aA cA=>sh5 kA lA mA tA sA qA aB pA fA eA bA gA iA jA dA aA cA (f4 k3) (f5 k3 n)
noncomputable def f3:Nat→Y3
  | 0=>fun _ _ _ _ _ _ _ _ _ _ _ _ _=>none
  | n+1=>fun kA lA tA sA fA eA bA gA iA jA dA aA cA=>sh3 kA lA tA sA fA eA bA gA iA jA dA aA cA f2 (f4 (f3 n)) (f5 (f3 n) 100000)
noncomputable def f1 (kA:Int) (lA:Int) (fA:Int) (eA:Int) (bA:List Work) (gA:Bool) (iA:Int) (jA:List Slot) (dA:List Work) (aA:List Slot) (cA:List Bool):R:=sh1 kA lA fA eA bA gA iA jA dA aA cA (f3 100000)
noncomputable def f0 (done:Int) (sum:Int) (met:Int) (most:Int) (l:List Work) (found:Bool) (least:Int) (lw:List Work) (bs:List Slot) (sl:List Slot) (dn:List Bool):R:=sh0 done sum met most l found least lw bs sl dn f1
theorem T2 (fA eA bA gA iA jA dA aA cA):(hid ct2) (fr2 fA eA bA gA iA jA dA aA cA)=f2 fA eA bA gA iA jA dA aA cA:=by
  refine (congrFun (hid_eq _) _).trans <| (P2 fA eA bA gA iA jA dA aA cA).trans ?_
  show _=sh2 fA eA bA gA iA jA dA aA cA
  rfl
theorem T4 (KL3:Kont U El) (k3:Y3) (h3:∀ kA lA tA sA fA eA bA gA iA jA dA aA cA,KL3 (fr3 kA lA tA sA fA eA bA gA iA jA dA aA cA)=k3 kA lA tA sA fA eA bA gA iA jA dA aA cA) (kA lA tA sA fA eA bA gA iA jA dA aA cA):(hid (ct4 (hid ct2) KL3)) (fr4 kA lA tA sA fA eA bA gA iA jA dA aA cA)=f4 k3 kA lA tA sA fA eA bA gA iA jA dA aA cA:=by
  refine (congrFun (hid_eq _) _).trans <| (P4 kA lA tA sA fA eA bA gA iA jA dA aA cA (hid ct2) KL3).trans ?_
  show _=sh4 kA lA tA sA fA eA bA gA iA jA dA aA cA k3
  simp only [h3]
theorem T5 (KL3:Kont U El) (k3:Y3) (h3:∀ kA lA tA sA fA eA bA gA iA jA dA aA cA,KL3 (fr3 kA lA tA sA fA eA bA gA iA jA dA aA cA)=k3 kA lA tA sA fA eA bA gA iA jA dA aA cA):∀ (n:Nat),∀ kA lA mA tA sA qA aB pA fA eA bA gA iA jA dA aA cA,it5 (hid ct2) (hid (ct4 (hid ct2) KL3)) n (fr5 kA lA mA tA sA qA aB pA fA eA bA gA iA jA dA aA cA)=f5 k3 n kA lA mA tA sA qA aB pA fA eA bA gA iA jA dA aA cA:=by
  intro n
  induction n with
  | zero=>intros; rfl
  | succ n ih =>
    intro kA lA mA tA sA qA aB pA fA eA bA gA iA jA dA aA cA
    refine (P5 kA lA mA tA sA qA aB pA fA eA bA gA iA jA dA aA cA (hid ct2) (hid (ct4 (hid ct2) KL3)) (it5 (hid ct2) (hid (ct4 (hid ct2) KL3)) n)).trans ?_
    show _=sh5 kA lA mA tA sA qA aB pA fA eA bA gA iA jA dA aA cA (f4 k3) (f5 k3 n)
    simp only [T4 KL3 k3 h3,ih]
theorem H5 (KL3:Kont U El) (k3:Y3) (h3:∀ kA lA tA sA fA eA bA gA iA jA dA aA cA,KL3 (fr3 kA lA tA sA fA eA bA gA iA jA dA aA cA)=k3 kA lA tA sA fA eA bA gA iA jA dA aA cA) (kA lA mA tA sA qA aB pA fA eA bA gA iA jA dA aA cA):hid (it5 (hid ct2) (hid (ct4 (hid ct2) KL3)) 100000) (fr5 kA lA mA tA sA qA aB pA fA eA bA gA iA jA dA aA cA)=f5 k3 100000 kA lA mA tA sA qA aB pA fA eA bA gA iA jA dA aA cA:=(congrFun (hid_eq _) _).trans (T5 KL3 k3 h3 100000 kA lA mA tA sA qA aB pA fA eA bA gA iA jA dA aA cA)
theorem T3:∀ (n:Nat),∀ kA lA tA sA fA eA bA gA iA jA dA aA cA,it3 (hid ct2) n (fr3 kA lA tA sA fA eA bA gA iA jA dA aA cA)=f3 n kA lA tA sA fA eA bA gA iA jA dA aA cA:=by
  intro n
  induction n with
  | zero=>intros; rfl
  | succ n ih =>
    intro kA lA tA sA fA eA bA gA iA jA dA aA cA
    refine (P3 kA lA tA sA fA eA bA gA iA jA dA aA cA (hid ct2) (it3 (hid ct2) n)).trans ?_
    show _=sh3 kA lA tA sA fA eA bA gA iA jA dA aA cA f2 (f4 (f3 n)) (f5 (f3 n) 100000)
    simp only [T2,T4 (it3 (hid ct2) n) (f3 n) ih,H5 (it3 (hid ct2) n) (f3 n) ih]
theorem H3 (kA lA tA sA fA eA bA gA iA jA dA aA cA):hid (it3 (hid ct2) 100000) (fr3 kA lA tA sA fA eA bA gA iA jA dA aA cA)=f3 100000 kA lA tA sA fA eA bA gA iA jA dA aA cA:=(congrFun (hid_eq _) _).trans (T3 100000 kA lA tA sA fA eA bA gA iA jA dA aA cA)
theorem T1 (kA lA fA eA bA gA iA jA dA aA cA):(hid ct1) (fr1 kA lA fA eA bA gA iA jA dA aA cA)=f1 kA lA fA eA bA gA iA jA dA aA cA:=by
  refine (congrFun (hid_eq _) _).trans <| (P1 kA lA fA eA bA gA iA jA dA aA cA).trans ?_
  show _=sh1 kA lA fA eA bA gA iA jA dA aA cA (f3 100000)
  simp only [H3]
theorem T0 (done sum met most l found least lw bs sl dn):exec X bd (.seq none .d (.seq none .d (.seq (some nm1) .d (.seq (some nm2) (.seq none .d (.block (.loop nm3 (.seq none .d (.seq none .d (.seq (some nm4) (.block (.seq none .d (.seq none .d (.seq none .d (.block (.loop nm5 (.seq none .d (.seq none .d (.seq none (.block (.seq none .d (.seq none .d (.seq none (.seq none (.region [(19,1000000000),(19,1000000001),(19,1000000002),(19,1000000003),(19,1000000004),(19,1000000005),(19,1000000006),(19,1000000007),(19,1000000008),(19,1000000009),(19,1000000010),(19,1000000011)]) .d) .d)))) .d))))))))) .d)))))) .d)))) (fr0 done sum met most l found least lw bs sl dn) RR (fun _ _=>none) RR=f0 done sum met most l found least lw bs sl dn:=by
  refine (P0 done sum met most l found least lw bs sl dn).trans ?_
  show _=sh0 done sum met most l found least lw bs sl dn f1
  simp only [T1]
theorem run (done sum met most l found least lw bs sl dn):runM X bd (.seq none .d (.seq none .d (.seq (some nm1) .d (.seq (some nm2) (.seq none .d (.block (.loop nm3 (.seq none .d (.seq none .d (.seq (some nm4) (.block (.seq none .d (.seq none .d (.seq none .d (.block (.loop nm5 (.seq none .d (.seq none .d (.seq none (.block (.seq none .d (.seq none .d (.seq none (.seq none (.region [(19,1000000000),(19,1000000001),(19,1000000002),(19,1000000003),(19,1000000004),(19,1000000005),(19,1000000006),(19,1000000007),(19,1000000008),(19,1000000009),(19,1000000010),(19,1000000011)]) .d) .d)))) .d))))))))) .d)))))) .d)))) nmR [12] [(1000000000,(.box 1000000000 [(.int .i64 met)])),(1000000001,(.box 1000000001 [(.int .i64 most)])),(1000000002,(.box 1000000002 [(.lst .work l)])),(1000000003,(.box 1000000003 [(.bool found)])),(1000000004,(.box 1000000004 [(.int .i64 least)])),(1000000005,(.box 1000000005 [(.ptr 1000000008 0)])),(1000000006,(.box 1000000006 [(.ful 1000000009)])),(1000000007,(.box 1000000007 [(.fn 43 [] [(.ptr 1000000000 0),(.ptr 1000000001 0),(.ptr 1000000002 0),(.ptr 1000000003 0),(.ptr 1000000004 0),(.ptr 1000000005 0),(.ptr 1000000006 0),(.ptr 1000000007 0)])])),(1000000008,(.box 1000000008 [(.lst .work lw),(.ful 1000000010),(.ful 1000000011)])),(1000000009,(.rows .slot bs)),(1000000010,(.rows .slot sl)),(1000000011,(.rows .bool dn))] [(.int .i64 done),(.int .i64 sum),(.ptr 1000000000 0),(.ptr 1000000001 0),(.ptr 1000000002 0),(.ptr 1000000003 0),(.ptr 1000000004 0),(.ptr 1000000005 0),(.ptr 1000000006 0),(.ptr 1000000007 0)]=f0 done sum met most l found least lw bs sl dn:=T0 done sum met most l found least lw bs sl dn
theorem crewLoop (l : List Work) (most : Int) (hv : okV l = true) (hval : validB l 12 = true) (k3 : Y3) (d : Nat) (sum : Int) (q : Nat) (hq : q < l.length) (dn : List Bool) (hr : rdyB l dn (q : Int) = true) (hd : d + cntF dn = l.length) (hc : cntF dn < BndS.n + 1) (x : Int) (wc : List Int) (hwc : wc.length ≤ 90000) : ∀ (n j : Nat) (s : Sr), wc.length < n + j → j ≤ wc.length → s.dn = dn → GS l s.sl dn →
    f5 k3 n (d:Int) sum (q:Int) x (q:Int) wc (Int.ofNat wc.length) (j:Int) s.met most l s.found s.least s.best l s.sl s.dn=bif (crewsS (fun sum' s'=>srch l most BndS.n (IntKind.wrap .i64 ((d:Int)+1)) sum' s') l sum (q:Int) (wc.drop j) s).1 then
      f4 k3 (d:Int) sum x (q:Int) (crewsS (fun sum' s'=>srch l most BndS.n (IntKind.wrap .i64 ((d:Int)+1)) sum' s') l sum (q:Int) (wc.drop j) s).2.met most l (crewsS (fun sum' s'=>srch l most BndS.n (IntKind.wrap .i64 ((d:Int)+1)) sum' s') l sum (q:Int) (wc.drop j) s).2.found (crewsS (fun sum' s'=>srch l most BndS.n (IntKind.wrap .i64 ((d:Int)+1)) sum' s') l sum (q:Int) (wc.drop j) s).2.least (crewsS (fun sum' s'=>srch l most BndS.n (IntKind.wrap .i64 ((d:Int)+1)) sum' s') l sum (q:Int) (wc.drop j) s).2.best l (crewsS (fun sum' s'=>srch l most BndS.n (IntKind.wrap .i64 ((d:Int)+1)) sum' s') l sum (q:Int) (wc.drop j) s).2.sl (crewsS (fun sum' s'=>srch l most BndS.n (IntKind.wrap .i64 ((d:Int)+1)) sum' s') l sum (q:Int) (wc.drop j) s).2.dn
      else outSr (crewsS (fun sum' s'=>srch l most BndS.n (IntKind.wrap .i64 ((d:Int)+1)) sum' s') l sum (q:Int) (wc.drop j) s) most l l:=by
  have hl:=(valid_of hval).len
  intro n
  induction n with
  | zero=>intro j s h1 h2; omega
  | succ n ih =>
    intro j s h1 h2 hdn hg
    show sh5 (d:Int) sum (q:Int) x (q:Int) wc (Int.ofNat wc.length) (j:Int) s.met most l s.found s.least s.best l s.sl s.dn (f4 k3) (f5 k3 n)=_
    unfold sh5
    by_cases hj:j < wc.length
    · have hS : SS l s.sl s.dn q := SS_mk hv hval (by rw [hdn]; exact hg) hq (by rw [hdn]; exact hr)
      have hqs:q < s.sl.length:=by rw [hg.len]; exact hq
      have hqd:q < dn.length:=by rw [hg.good.1]; exact hq
      obtain ⟨g1,g2⟩:=GS_step hg hq hr wc[j] (startZ l s.sl s.dn (q:Int) wc[j])
      have hget:List.getD (List.set s.sl q ⟨(q:Int),wc[j],startZ l s.sl s.dn (q:Int) wc[j]⟩) q d_slot=⟨(q:Int),wc[j],startZ l s.sl s.dn (q:Int) wc[j]⟩:=by rw [getD_setS _ _ _ _ hqs,if_pos rfl]
      have hsw:inb (Slot.sw (List.getD (List.set s.sl q ⟨(q:Int),wc[j],startZ l s.sl s.dn (q:Int) wc[j]⟩) q d_slot)) l.length=true:=by rw [hget]; exact inbT hq
      have hP:srP l l BndS.n (IntKind.wrap .i64 ((d:Int)+1)) (List.set s.sl q ⟨(q:Int),wc[j],startZ l s.sl s.dn (q:Int) wc[j]⟩) (List.set s.dn q true)=true:=by
        rw [wrapS d (by omega),hdn]
        refine srP_iff.2 ⟨rfl,hv,hval,?_,d+1,rfl,by omega,by omega⟩
        rw [hdn] at g1
        exact g1
      rw [iltT (by simp; omega),inbT hj,toNat_nat,toNat_nat,getD_lt hj,okS_T hS,inbT hq,List.length_set,inbT hqs,nltT hqs,hsw,hP,drop_lt hj]
      simp only [crewsS]
      have hkeep:=srch_keeps (most:=most) BndS.n (IntKind.wrap .i64 ((d:Int)+1)) (IntKind.wrap .i64 (sum+lateZ (List.getD l q d_work) (endZ l (List.getD (List.set s.sl q ⟨(q:Int),wc[j],startZ l s.sl s.dn (q:Int) wc[j]⟩) q d_slot)))) (plcSr l s (q:Int) wc[j]) (by show GS l (List.set s.sl q _) (List.set s.dn q true); rw [hdn] at g1 ⊢; exact g1) (by show cntF (List.set s.dn q true) < _; rw [hdn]; omega)
      have e1:(srch l most BndS.n (IntKind.wrap .i64 ((d:Int)+1)) (IntKind.wrap .i64 (sum+lateZ (List.getD l q d_work) (endZ l (List.getD (List.set s.sl q ⟨(q:Int),wc[j],startZ l s.sl s.dn (q:Int) wc[j]⟩) q d_slot)))) (⟨s.met,s.least,s.found,s.best,List.set s.sl q ⟨(q:Int),wc[j],startZ l s.sl s.dn (q:Int) wc[j]⟩,List.set s.dn q true⟩:Sr))=srch l most BndS.n (IntKind.wrap .i64 ((d:Int)+1)) (IntKind.wrap .i64 (sum+lateZ (List.getD l q d_work) (endZ l (List.getD (List.set s.sl q ⟨(q:Int),wc[j],startZ l s.sl s.dn (q:Int) wc[j]⟩) q d_slot)))) (plcSr l s (q:Int) wc[j]):=rfl
      have e2:srch l most BndS.n (IntKind.wrap .i64 ((d:Int)+1)) (IntKind.wrap .i64 (sum+lateZ (List.getD l (Int.toNat (q:Int)) d_work) (endZ l (List.getD (plcSr l s (q:Int) wc[j]).sl (Int.toNat (q:Int)) d_slot)))) (plcSr l s (q:Int) wc[j])=srch l most BndS.n (IntKind.wrap .i64 ((d:Int)+1)) (IntKind.wrap .i64 (sum+lateZ (List.getD l q d_work) (endZ l (List.getD (List.set s.sl q ⟨(q:Int),wc[j],startZ l s.sl s.dn (q:Int) wc[j]⟩) q d_slot)))) (plcSr l s (q:Int) wc[j]):=rfl
      rw [e1,e2]
      have hdn1:(plcSr l s (q:Int) wc[j]).dn=dn.set q true:=by show List.set s.dn q true=_; rw [hdn]
      rw [hdn1] at hkeep
      generalize srch l most BndS.n (IntKind.wrap .i64 ((d:Int)+1)) (IntKind.wrap .i64 (sum+lateZ (List.getD l q d_work) (endZ l (List.getD (List.set s.sl q ⟨(q:Int),wc[j],startZ l s.sl s.dn (q:Int) wc[j]⟩) q d_slot)))) (plcSr l s (q:Int) wc[j])=r at hkeep ⊢
      cases hb:r.1 with
      | false=>rfl
      | true =>
        obtain ⟨k1,k2⟩:=hkeep hb
        have hback:(clrSr r.2 (q:Int)).dn=dn:=by
          show List.set r.2.dn q false=dn
          rw [k1]
          exact set_back hqd (rdy_of hr).1
        have hih:=ih (j+1) (clrSr r.2 (q:Int)) (by omega) hj hback ⟨k2.len,k2.sw,hg.good⟩
        rw [wrapS j (by omega),show inb (q:Int) r.2.dn.length=true by rw [k1,List.length_set]; exact inbT hqd,nltT (show q < r.2.dn.length by rw [k1,List.length_set]; exact hqd)]
        exact hih
    · have : j = wc.length := by omega
      subst this
      rw [iltF (by simp),List.drop_length,condF]
      rfl
theorem workLoop (l : List Work) (most : Int) (hv : okV l = true) (hval : validB l 12 = true) (d : Nat) (sum : Int) (dn : List Bool) (hd : d + cntF dn = l.length) (hc : cntF dn < BndS.n + 1) : ∀ (n k : Nat) (s : Sr), l.length < n + k → k ≤ l.length → s.dn = dn → GS l s.sl dn →
    f3 n (d:Int) sum (Int.ofNat l.length) (k:Int) s.met most l s.found s.least s.best l s.sl s.dn=outSr (worksS (fun sum' s'=>srch l most BndS.n (IntKind.wrap .i64 ((d:Int)+1)) sum' s') l sum (l.length - k) k s) most l l:=by
  have hV:=valid_of hval
  have hl:=hV.len
  have hO:=good_okO hv hV.good
  intro n
  induction n with
  | zero=>intro k s h1 h2; omega
  | succ n ih =>
    intro k s h1 h2 hdn hg
    show sh3 (d:Int) sum (Int.ofNat l.length) (k:Int) s.met most l s.found s.least s.best l s.sl s.dn f2 (f4 (f3 n)) (f5 (f3 n) 100000)=_
    unfold sh3
    by_cases hk:k < l.length
    · have hR : okR l s.dn (k : Int) = true := by
        simp only [okR,Bool.and_eq_true]
        exact ⟨inbT hk,by rw [hdn,hg.good.1]; exact Nat.beq_refl _,hO⟩
      have e4:∀ (s:Sr),s.dn=dn→GS l s.sl dn→f4 (f3 n) (d:Int) sum (Int.ofNat l.length) (k:Int) s.met most l s.found s.least s.best l s.sl s.dn=outSr (worksS (fun sum' s'=>srch l most BndS.n (IntKind.wrap .i64 ((d:Int)+1)) sum' s') l sum (l.length - (k+1)) (k+1) s) most l l:=fun s h3 h4=>by
        show f3 n (d:Int) sum (Int.ofNat l.length) (IntKind.wrap .i64 ((k:Int)+1)) s.met most l s.found s.least s.best l s.sl s.dn=_
        rw [wrapS k (by omega)]
        exact ih (k+1) s (by omega) hk h3 h4
      rw [iltT (by simp; omega),hR,inbT hk,toNat_nat,show l.length - k=(l.length - (k+1))+1 by omega]
      simp only [worksS]
      cases hr:rdyB l s.dn (k:Int) with
      | false=>exact e4 s hdn hg
      | true =>
        have hr':rdyB l dn (k:Int)=true:=by rw [← hdn]; exact hr
        have hwc9:=((okV_len hv).2 _ (List.getElem_mem hk)).2
        rw [cond_true]
        show f5 (f3 n) 100000 (d:Int) sum (k:Int) (Int.ofNat l.length) (k:Int) (List.getD l k d_work).wc (Int.ofNat (List.getD l k d_work).wc.length) ((0:Nat):Int) s.met most l s.found s.least s.best l s.sl s.dn=_
        rw [crewLoop l most hv hval (f3 n) d sum k hk dn hr' hd hc (Int.ofNat l.length) (List.getD l k d_work).wc (by rw [getD_lt hk]; exact hwc9) 100000 0 s (by rw [getD_lt hk]; omega) (by omega) hdn hg,List.drop_zero]
        have hkeep:=crews_keeps (sum:=sum) hk hr' (fun sum' s' hd' hg'=>by
          have h7:=srch_keeps (most:=most) BndS.n (IntKind.wrap .i64 ((d:Int)+1)) sum' s' hg' (by
            rw [hd']
            have:=cnt_set dn k (by rw [hg.good.1]; exact hk) (rdy_of hr').1
            omega)
          rw [hd'] at h7
          exact h7) (List.getD l k d_work).wc s hdn hg
        generalize crewsS (fun sum' s'=>srch l most BndS.n (IntKind.wrap .i64 ((d:Int)+1)) sum' s') l sum (k:Int) (List.getD l k d_work).wc s=r at hkeep ⊢
        cases hb:r.1 with
        | false =>
          rw [cond_false,cond_false]
          have:r=(false,r.2):=by rw [← hb]
          rw [this]
        | true =>
          obtain ⟨k1,k2⟩:=hkeep hb
          rw [cond_true,cond_true]
          exact e4 r.2 k1 k2
    · have : k = l.length := by omega
      subst this
      rw [iltF (by simp),Nat.sub_self,condF]
      rfl
theorem f0_eq (done sum met most : Int) (l : List Work) (found : Bool) (least : Int) (lw : List Work) (bs sl : List Slot) (dn : List Bool) (h : srP l lw (Nat.succ BndS.n) done sl dn = true) : f0 done sum met most l found least lw bs sl dn = outSr (srch l most (Nat.succ BndS.n) done sum ⟨met, least, found, bs, sl, dn⟩) most l lw := by
  obtain ⟨rfl,hv,hval,hg,d,rfl,hd,hc⟩:=srP_iff.1 h
  rw [Nat.succ_eq_add_one] at *
  have hl:=(valid_of hval).len
  show sh0 (d:Int) sum met most lw found least lw bs sl dn f1=_
  unfold sh0
  simp only [srch]
  cases ilt most (IntKind.wrap .i64 (met+1)) with
  | true=>rfl
  | false =>
    rw [condF,cond_false]
    have e1:∀ (s:Sr),s.dn=dn→GS lw s.sl dn→f1 (d:Int) sum s.met most lw s.found s.least s.best lw s.sl s.dn=outSr (worksS (fun sum' s'=>srch lw most BndS.n (IntKind.wrap .i64 ((d:Int)+1)) sum' s') lw sum lw.length 0 s) most lw lw:=fun s h1 h2=>by
      show f3 100000 (d:Int) sum (Int.ofNat lw.length) ((0:Nat):Int) s.met most lw s.found s.least s.best lw s.sl s.dn=_
      rw [workLoop lw most hv hval d sum dn hd hc 100000 0 s (by omega) (by omega) h1 h2,Nat.sub_zero]
    unfold leafS
    rw [nleT (show sl.length≤90000 by rw [hg.len]; omega)]
    have a1:=e1 ⟨IntKind.wrap .i64 (met+1),sum,true,sl,sl,dn⟩ rfl hg
    have a2:=e1 ⟨IntKind.wrap .i64 (met+1),least,found,bs,sl,dn⟩ rfl hg
    cases ((d:Int) == Int.ofNat lw.length)
    · exact a2
    · cases found
      · exact a1
      · cases ilt sum least
        · exact a2
        · exact a1
theorem ok:CtxOk Try.prog X:=ctxOk tab (spC cloneS.spOk (spC ready.spOk (spC late.spOk (spC endc.spOk spN)))) (dpC ⟨searchR.spOk,searchR.spDet⟩ dpN)
theorem okM:MOk Try.prog X:=mspecOf_ok _ (mpC (mcSp_ok ok place.spOk) mpN)
theorem spec (done:Int) (sum:Int) (met:Int) (most:Int) (l:List Work) (found:Bool) (least:Int) (lw:List Work) (bs:List Slot) (sl:List Slot) (dn:List Bool) (h:(srP l lw (Nat.succ BndS.n) done sl dn)=true):MCall Try.prog E 43 [(.int .i64 done),(.int .i64 sum),(.ptr 1000000000 0),(.ptr 1000000001 0),(.ptr 1000000002 0),(.ptr 1000000003 0),(.ptr 1000000004 0),(.ptr 1000000005 0),(.ptr 1000000006 0),(.ptr 1000000007 0)] [(1000000000,(.box 1000000000 [(.int .i64 met)])),(1000000001,(.box 1000000001 [(.int .i64 most)])),(1000000002,(.box 1000000002 [(.lst .work l)])),(1000000003,(.box 1000000003 [(.bool found)])),(1000000004,(.box 1000000004 [(.int .i64 least)])),(1000000005,(.box 1000000005 [(.ptr 1000000008 0)])),(1000000006,(.box 1000000006 [(.ful 1000000009)])),(1000000007,(.box 1000000007 [(.fn 43 [] [(.ptr 1000000000 0),(.ptr 1000000001 0),(.ptr 1000000002 0),(.ptr 1000000003 0),(.ptr 1000000004 0),(.ptr 1000000005 0),(.ptr 1000000006 0),(.ptr 1000000007 0)])])),(1000000008,(.box 1000000008 [(.lst .work lw),(.ful 1000000010),(.ful 1000000011)])),(1000000009,(.rows .slot bs)),(1000000010,(.rows .slot sl)),(1000000011,(.rows .bool dn))] (.bool ((srch l most (Nat.succ BndS.n) done sum (⟨met,least,found,bs,sl,dn⟩:Sr)).1)) [(1000000000,(.box 1000000000 [(.int .i64 (Sr.met (srch l most (Nat.succ BndS.n) done sum (⟨met,least,found,bs,sl,dn⟩:Sr)).2))])),(1000000001,(.box 1000000001 [(.int .i64 most)])),(1000000002,(.box 1000000002 [(.lst .work l)])),(1000000003,(.box 1000000003 [(.bool (Sr.found (srch l most (Nat.succ BndS.n) done sum (⟨met,least,found,bs,sl,dn⟩:Sr)).2))])),(1000000004,(.box 1000000004 [(.int .i64 (Sr.least (srch l most (Nat.succ BndS.n) done sum (⟨met,least,found,bs,sl,dn⟩:Sr)).2))])),(1000000005,(.box 1000000005 [(.ptr 1000000008 0)])),(1000000006,(.box 1000000006 [(.ful 1000000009)])),(1000000007,(.box 1000000007 [(.fn 43 [] [(.ptr 1000000000 0),(.ptr 1000000001 0),(.ptr 1000000002 0),(.ptr 1000000003 0),(.ptr 1000000004 0),(.ptr 1000000005 0),(.ptr 1000000006 0),(.ptr 1000000007 0)])])),(1000000008,(.box 1000000008 [(.lst .work lw),(.ful 1000000010),(.ful 1000000011)])),(1000000009,(.rows .slot (Sr.best (srch l most (Nat.succ BndS.n) done sum (⟨met,least,found,bs,sl,dn⟩:Sr)).2))),(1000000010,(.rows .slot (Sr.sl (srch l most (Nat.succ BndS.n) done sum (⟨met,least,found,bs,sl,dn⟩:Sr)).2))),(1000000011,(.rows .bool (Sr.dn (srch l most (Nat.succ BndS.n) done sum (⟨met,least,found,bs,sl,dn⟩:Sr)).2)))] :=
  runM_sound ok okM Try.func43 (by kernel_rfl) (by kernel_rfl) (by kernel_rfl) (by show 10≤92; decide) ((run done sum met most l found least lw bs sl dn).trans (f0_eq done sum met most l found least lw bs sl dn h))
noncomputable def sp:MSp U El:=fun args hs k=>match args,hs with
  | [.int .i64 done,.int .i64 sum,.ptr q0 0,.ptr q1 0,.ptr q2 0,.ptr q3 0,.ptr q4 0,.ptr q5 0,.ptr q6 0,.ptr q7 0],[(q8,.box q9 [.int .i64 met]),(q10,.box q11 [.int .i64 most]),(q12,.box q13 [.lst .work l]),(q14,.box q15 [.bool found]),(q16,.box q17 [.int .i64 least]),(q18,.box q19 [.ptr q20 0]),(q21,.box q22 [.ful q23]),(q24,.box q25 [.fn 43 [] [.ptr q26 0,.ptr q27 0,.ptr q28 0,.ptr q29 0,.ptr q30 0,.ptr q31 0,.ptr q32 0,.ptr q33 0]]),(q34,.box q35 [.lst .work lw,.ful q36,.ful q37]),(q38,.rows .slot bs),(q39,.rows .slot sl),(q40,.rows .bool dn)]=>chk (Nat.beq q0 1000000000&&(Nat.beq q1 1000000001&&(Nat.beq q2 1000000002&&(Nat.beq q3 1000000003&&(Nat.beq q4 1000000004&&(Nat.beq q5 1000000005&&(Nat.beq q6 1000000006&&(Nat.beq q7 1000000007&&(Nat.beq q8 1000000000&&(Nat.beq q9 1000000000&&(Nat.beq q10 1000000001&&(Nat.beq q11 1000000001&&(Nat.beq q12 1000000002&&(Nat.beq q13 1000000002&&(Nat.beq q14 1000000003&&(Nat.beq q15 1000000003&&(Nat.beq q16 1000000004&&(Nat.beq q17 1000000004&&(Nat.beq q18 1000000005&&(Nat.beq q19 1000000005&&(Nat.beq q20 1000000008&&(Nat.beq q21 1000000006&&(Nat.beq q22 1000000006&&(Nat.beq q23 1000000009&&(Nat.beq q24 1000000007&&(Nat.beq q25 1000000007&&(Nat.beq q26 1000000000&&(Nat.beq q27 1000000001&&(Nat.beq q28 1000000002&&(Nat.beq q29 1000000003&&(Nat.beq q30 1000000004&&(Nat.beq q31 1000000005&&(Nat.beq q32 1000000006&&(Nat.beq q33 1000000007&&(Nat.beq q34 1000000008&&(Nat.beq q35 1000000008&&(Nat.beq q36 1000000010&&(Nat.beq q37 1000000011&&(Nat.beq q38 1000000009&&(Nat.beq q39 1000000010&&(Nat.beq q40 1000000011&&true))))))))))))))))))))))))))))))))))))))))) (chk (srP l lw (Nat.succ BndS.n) done sl dn) (k (.bool ((srch l most (Nat.succ BndS.n) done sum (⟨met,least,found,bs,sl,dn⟩:Sr)).1)) [(1000000000,(.box 1000000000 [(.int .i64 (Sr.met (srch l most (Nat.succ BndS.n) done sum (⟨met,least,found,bs,sl,dn⟩:Sr)).2))])),(1000000001,(.box 1000000001 [(.int .i64 most)])),(1000000002,(.box 1000000002 [(.lst .work l)])),(1000000003,(.box 1000000003 [(.bool (Sr.found (srch l most (Nat.succ BndS.n) done sum (⟨met,least,found,bs,sl,dn⟩:Sr)).2))])),(1000000004,(.box 1000000004 [(.int .i64 (Sr.least (srch l most (Nat.succ BndS.n) done sum (⟨met,least,found,bs,sl,dn⟩:Sr)).2))])),(1000000005,(.box 1000000005 [(.ptr 1000000008 0)])),(1000000006,(.box 1000000006 [(.ful 1000000009)])),(1000000007,(.box 1000000007 [(.fn 43 [] [(.ptr 1000000000 0),(.ptr 1000000001 0),(.ptr 1000000002 0),(.ptr 1000000003 0),(.ptr 1000000004 0),(.ptr 1000000005 0),(.ptr 1000000006 0),(.ptr 1000000007 0)])])),(1000000008,(.box 1000000008 [(.lst .work lw),(.ful 1000000010),(.ful 1000000011)])),(1000000009,(.rows .slot (Sr.best (srch l most (Nat.succ BndS.n) done sum (⟨met,least,found,bs,sl,dn⟩:Sr)).2))),(1000000010,(.rows .slot (Sr.sl (srch l most (Nat.succ BndS.n) done sum (⟨met,least,found,bs,sl,dn⟩:Sr)).2))),(1000000011,(.rows .bool (Sr.dn (srch l most (Nat.succ BndS.n) done sum (⟨met,least,found,bs,sl,dn⟩:Sr)).2)))]))
  | _,_=>none
theorem spOk:MSpOk Try.prog E 43 sp:=⟨Try.call43,fun args hs k r h=>by
  unfold sp at h
  split at h
  · obtain ⟨hq, hA⟩ := chk_some h
    clear h
    simp only [Bool.and_eq_true] at hq
    obtain ⟨e0,e1,e2,e3,e4,e5,e6,e7,e8,e9,e10,e11,e12,e13,e14,e15,e16,e17,e18,e19,e20,e21,e22,e23,e24,e25,e26,e27,e28,e29,e30,e31,e32,e33,e34,e35,e36,e37,e38,e39,e40,_⟩:=hq
    cases Nat.eq_of_beq_eq_true e0
    cases Nat.eq_of_beq_eq_true e1
    cases Nat.eq_of_beq_eq_true e2
    cases Nat.eq_of_beq_eq_true e3
    cases Nat.eq_of_beq_eq_true e4
    cases Nat.eq_of_beq_eq_true e5
    cases Nat.eq_of_beq_eq_true e6
    cases Nat.eq_of_beq_eq_true e7
    cases Nat.eq_of_beq_eq_true e8
    cases Nat.eq_of_beq_eq_true e9
    cases Nat.eq_of_beq_eq_true e10
    cases Nat.eq_of_beq_eq_true e11
    cases Nat.eq_of_beq_eq_true e12
    cases Nat.eq_of_beq_eq_true e13
    cases Nat.eq_of_beq_eq_true e14
    cases Nat.eq_of_beq_eq_true e15
    cases Nat.eq_of_beq_eq_true e16
    cases Nat.eq_of_beq_eq_true e17
    cases Nat.eq_of_beq_eq_true e18
    cases Nat.eq_of_beq_eq_true e19
    cases Nat.eq_of_beq_eq_true e20
    cases Nat.eq_of_beq_eq_true e21
    cases Nat.eq_of_beq_eq_true e22
    cases Nat.eq_of_beq_eq_true e23
    cases Nat.eq_of_beq_eq_true e24
    cases Nat.eq_of_beq_eq_true e25
    cases Nat.eq_of_beq_eq_true e26
    cases Nat.eq_of_beq_eq_true e27
    cases Nat.eq_of_beq_eq_true e28
    cases Nat.eq_of_beq_eq_true e29
    cases Nat.eq_of_beq_eq_true e30
    cases Nat.eq_of_beq_eq_true e31
    cases Nat.eq_of_beq_eq_true e32
    cases Nat.eq_of_beq_eq_true e33
    cases Nat.eq_of_beq_eq_true e34
    cases Nat.eq_of_beq_eq_true e35
    cases Nat.eq_of_beq_eq_true e36
    cases Nat.eq_of_beq_eq_true e37
    cases Nat.eq_of_beq_eq_true e38
    cases Nat.eq_of_beq_eq_true e39
    cases Nat.eq_of_beq_eq_true e40
    obtain ⟨h1,hB⟩:=chk_some hA
    exact ⟨_,_,spec _ _ _ _ _ _ _ _ _ _ _ h1,hB⟩
  · cases h⟩
theorem spDet:∀ args hs,∃ oo:Option (AV U El×Heap U El),∀ k,sp args hs k=oo.bind fun p=>k p.1 p.2:=fun args hs=>by
  unfold sp
  split
  · exact det_chkM (det_chkM ⟨some (_,_),fun _=>rfl⟩)
  · exact ⟨none,fun _=>rfl⟩
end search
end
theorem srAll:∀ n,SrC n
  | 0 => fun done sum met most l found least lw bs sl dn h => by
    obtain ⟨_,_,_,_,d,_,_,hc⟩:=srP_iff.1 h
    omega
  | n+1=>@search.spec ⟨n,srAll n⟩
namespace searchF
theorem spec (done:Int) (sum:Int) (met:Int) (most:Int) (l:List Work) (found:Bool) (least:Int) (lw:List Work) (bs:List Slot) (sl:List Slot) (dn:List Bool) (h:(srP l lw 200 done sl dn)=true):MCall Try.prog E 43 [(.int .i64 done),(.int .i64 sum),(.ptr 1000000000 0),(.ptr 1000000001 0),(.ptr 1000000002 0),(.ptr 1000000003 0),(.ptr 1000000004 0),(.ptr 1000000005 0),(.ptr 1000000006 0),(.ptr 1000000007 0)] [(1000000000,(.box 1000000000 [(.int .i64 met)])),(1000000001,(.box 1000000001 [(.int .i64 most)])),(1000000002,(.box 1000000002 [(.lst .work l)])),(1000000003,(.box 1000000003 [(.bool found)])),(1000000004,(.box 1000000004 [(.int .i64 least)])),(1000000005,(.box 1000000005 [(.ptr 1000000008 0)])),(1000000006,(.box 1000000006 [(.ful 1000000009)])),(1000000007,(.box 1000000007 [(.fn 43 [] [(.ptr 1000000000 0),(.ptr 1000000001 0),(.ptr 1000000002 0),(.ptr 1000000003 0),(.ptr 1000000004 0),(.ptr 1000000005 0),(.ptr 1000000006 0),(.ptr 1000000007 0)])])),(1000000008,(.box 1000000008 [(.lst .work lw),(.ful 1000000010),(.ful 1000000011)])),(1000000009,(.rows .slot bs)),(1000000010,(.rows .slot sl)),(1000000011,(.rows .bool dn))] (.bool ((srch l most 200 done sum (⟨met,least,found,bs,sl,dn⟩:Sr)).1)) [(1000000000,(.box 1000000000 [(.int .i64 (Sr.met (srch l most 200 done sum (⟨met,least,found,bs,sl,dn⟩:Sr)).2))])),(1000000001,(.box 1000000001 [(.int .i64 most)])),(1000000002,(.box 1000000002 [(.lst .work l)])),(1000000003,(.box 1000000003 [(.bool (Sr.found (srch l most 200 done sum (⟨met,least,found,bs,sl,dn⟩:Sr)).2))])),(1000000004,(.box 1000000004 [(.int .i64 (Sr.least (srch l most 200 done sum (⟨met,least,found,bs,sl,dn⟩:Sr)).2))])),(1000000005,(.box 1000000005 [(.ptr 1000000008 0)])),(1000000006,(.box 1000000006 [(.ful 1000000009)])),(1000000007,(.box 1000000007 [(.fn 43 [] [(.ptr 1000000000 0),(.ptr 1000000001 0),(.ptr 1000000002 0),(.ptr 1000000003 0),(.ptr 1000000004 0),(.ptr 1000000005 0),(.ptr 1000000006 0),(.ptr 1000000007 0)])])),(1000000008,(.box 1000000008 [(.lst .work lw),(.ful 1000000010),(.ful 1000000011)])),(1000000009,(.rows .slot (Sr.best (srch l most 200 done sum (⟨met,least,found,bs,sl,dn⟩:Sr)).2))),(1000000010,(.rows .slot (Sr.sl (srch l most 200 done sum (⟨met,least,found,bs,sl,dn⟩:Sr)).2))),(1000000011,(.rows .bool (Sr.dn (srch l most 200 done sum (⟨met,least,found,bs,sl,dn⟩:Sr)).2)))]:=srAll 200 _ _ _ _ _ _ _ _ _ _ _ h
noncomputable def sp:MSp U El:=fun args hs k=>match args,hs with
  | [.int .i64 done,.int .i64 sum,.ptr q0 0,.ptr q1 0,.ptr q2 0,.ptr q3 0,.ptr q4 0,.ptr q5 0,.ptr q6 0,.ptr q7 0],[(q8,.box q9 [.int .i64 met]),(q10,.box q11 [.int .i64 most]),(q12,.box q13 [.lst .work l]),(q14,.box q15 [.bool found]),(q16,.box q17 [.int .i64 least]),(q18,.box q19 [.ptr q20 0]),(q21,.box q22 [.ful q23]),(q24,.box q25 [.fn 43 [] [.ptr q26 0,.ptr q27 0,.ptr q28 0,.ptr q29 0,.ptr q30 0,.ptr q31 0,.ptr q32 0,.ptr q33 0]]),(q34,.box q35 [.lst .work lw,.ful q36,.ful q37]),(q38,.rows .slot bs),(q39,.rows .slot sl),(q40,.rows .bool dn)]=>chk (Nat.beq q0 1000000000&&(Nat.beq q1 1000000001&&(Nat.beq q2 1000000002&&(Nat.beq q3 1000000003&&(Nat.beq q4 1000000004&&(Nat.beq q5 1000000005&&(Nat.beq q6 1000000006&&(Nat.beq q7 1000000007&&(Nat.beq q8 1000000000&&(Nat.beq q9 1000000000&&(Nat.beq q10 1000000001&&(Nat.beq q11 1000000001&&(Nat.beq q12 1000000002&&(Nat.beq q13 1000000002&&(Nat.beq q14 1000000003&&(Nat.beq q15 1000000003&&(Nat.beq q16 1000000004&&(Nat.beq q17 1000000004&&(Nat.beq q18 1000000005&&(Nat.beq q19 1000000005&&(Nat.beq q20 1000000008&&(Nat.beq q21 1000000006&&(Nat.beq q22 1000000006&&(Nat.beq q23 1000000009&&(Nat.beq q24 1000000007&&(Nat.beq q25 1000000007&&(Nat.beq q26 1000000000&&(Nat.beq q27 1000000001&&(Nat.beq q28 1000000002&&(Nat.beq q29 1000000003&&(Nat.beq q30 1000000004&&(Nat.beq q31 1000000005&&(Nat.beq q32 1000000006&&(Nat.beq q33 1000000007&&(Nat.beq q34 1000000008&&(Nat.beq q35 1000000008&&(Nat.beq q36 1000000010&&(Nat.beq q37 1000000011&&(Nat.beq q38 1000000009&&(Nat.beq q39 1000000010&&(Nat.beq q40 1000000011&&true))))))))))))))))))))))))))))))))))))))))) (chk (srP l lw 200 done sl dn) (k (.bool ((srch l most 200 done sum (⟨met,least,found,bs,sl,dn⟩:Sr)).1)) [(1000000000,(.box 1000000000 [(.int .i64 (Sr.met (srch l most 200 done sum (⟨met,least,found,bs,sl,dn⟩:Sr)).2))])),(1000000001,(.box 1000000001 [(.int .i64 most)])),(1000000002,(.box 1000000002 [(.lst .work l)])),(1000000003,(.box 1000000003 [(.bool (Sr.found (srch l most 200 done sum (⟨met,least,found,bs,sl,dn⟩:Sr)).2))])),(1000000004,(.box 1000000004 [(.int .i64 (Sr.least (srch l most 200 done sum (⟨met,least,found,bs,sl,dn⟩:Sr)).2))])),(1000000005,(.box 1000000005 [(.ptr 1000000008 0)])),(1000000006,(.box 1000000006 [(.ful 1000000009)])),(1000000007,(.box 1000000007 [(.fn 43 [] [(.ptr 1000000000 0),(.ptr 1000000001 0),(.ptr 1000000002 0),(.ptr 1000000003 0),(.ptr 1000000004 0),(.ptr 1000000005 0),(.ptr 1000000006 0),(.ptr 1000000007 0)])])),(1000000008,(.box 1000000008 [(.lst .work lw),(.ful 1000000010),(.ful 1000000011)])),(1000000009,(.rows .slot (Sr.best (srch l most 200 done sum (⟨met,least,found,bs,sl,dn⟩:Sr)).2))),(1000000010,(.rows .slot (Sr.sl (srch l most 200 done sum (⟨met,least,found,bs,sl,dn⟩:Sr)).2))),(1000000011,(.rows .bool (Sr.dn (srch l most 200 done sum (⟨met,least,found,bs,sl,dn⟩:Sr)).2)))]))
  | _,_=>none
theorem spOk:MSpOk Try.prog E 43 sp:=⟨Try.call43,fun args hs k r h=>by
  unfold sp at h
  split at h
  · obtain ⟨hq, hA⟩ := chk_some h
    clear h
    simp only [Bool.and_eq_true] at hq
    obtain ⟨e0,e1,e2,e3,e4,e5,e6,e7,e8,e9,e10,e11,e12,e13,e14,e15,e16,e17,e18,e19,e20,e21,e22,e23,e24,e25,e26,e27,e28,e29,e30,e31,e32,e33,e34,e35,e36,e37,e38,e39,e40,_⟩:=hq
    cases Nat.eq_of_beq_eq_true e0
    cases Nat.eq_of_beq_eq_true e1
    cases Nat.eq_of_beq_eq_true e2
    cases Nat.eq_of_beq_eq_true e3
    cases Nat.eq_of_beq_eq_true e4
    cases Nat.eq_of_beq_eq_true e5
    cases Nat.eq_of_beq_eq_true e6
    cases Nat.eq_of_beq_eq_true e7
    cases Nat.eq_of_beq_eq_true e8
    cases Nat.eq_of_beq_eq_true e9
    cases Nat.eq_of_beq_eq_true e10
    cases Nat.eq_of_beq_eq_true e11
    cases Nat.eq_of_beq_eq_true e12
    cases Nat.eq_of_beq_eq_true e13
    cases Nat.eq_of_beq_eq_true e14
    cases Nat.eq_of_beq_eq_true e15
    cases Nat.eq_of_beq_eq_true e16
    cases Nat.eq_of_beq_eq_true e17
    cases Nat.eq_of_beq_eq_true e18
    cases Nat.eq_of_beq_eq_true e19
    cases Nat.eq_of_beq_eq_true e20
    cases Nat.eq_of_beq_eq_true e21
    cases Nat.eq_of_beq_eq_true e22
    cases Nat.eq_of_beq_eq_true e23
    cases Nat.eq_of_beq_eq_true e24
    cases Nat.eq_of_beq_eq_true e25
    cases Nat.eq_of_beq_eq_true e26
    cases Nat.eq_of_beq_eq_true e27
    cases Nat.eq_of_beq_eq_true e28
    cases Nat.eq_of_beq_eq_true e29
    cases Nat.eq_of_beq_eq_true e30
    cases Nat.eq_of_beq_eq_true e31
    cases Nat.eq_of_beq_eq_true e32
    cases Nat.eq_of_beq_eq_true e33
    cases Nat.eq_of_beq_eq_true e34
    cases Nat.eq_of_beq_eq_true e35
    cases Nat.eq_of_beq_eq_true e36
    cases Nat.eq_of_beq_eq_true e37
    cases Nat.eq_of_beq_eq_true e38
    cases Nat.eq_of_beq_eq_true e39
    cases Nat.eq_of_beq_eq_true e40
    obtain ⟨h1,hB⟩:=chk_some hA
    exact ⟨_,_,spec _ _ _ _ _ _ _ _ _ _ _ h1,hB⟩
  · cases h⟩
theorem spDet:∀ args hs,∃ oo:Option (AV U El×Heap U El),∀ k,sp args hs k=oo.bind fun p=>k p.1 p.2:=fun args hs=>by
  unfold sp
  split
  · exact det_chkM (det_chkM ⟨some (_,_),fun _=>rfl⟩)
  · exact ⟨none,fun _=>rfl⟩
end searchF
noncomputable def bestR (l:List Work) (most:Int):Bool×Sr:=srch l most 200 0 0 ⟨0,0,false,[],List.replicate l.length d_slot,List.replicate l.length d_bool⟩
noncomputable def bestG (l:List Work) (crews most:Int):List Slot×Int×Int:=bif !(validB l crews) then ([],0,1) else bif !(ile 1 most&&ile most 100000) then ([],0,2) else bif !(bestR l most).1 then ([],0,6) else ((bestR l most).2.best,(bestR l most).2.least,0)
noncomputable def bestL (l:List Work) (crews most:Int):List Slot:=(bestG l crews most).1
noncomputable def bestN (l:List Work) (crews most:Int):Int:=(bestG l crews most).2.1
noncomputable def bestE (l:List Work) (crews most:Int):Int:=(bestG l crews most).2.2
noncomputable def outB3 (g:List Slot×Int×Int):R:=some ((.tup [(.lst .slot g.1),(.int .i64 g.2.1),(.int .i64 g.2.2)]),[])
theorem GS_new (l:List Work):GS l (List.replicate l.length d_slot) (List.replicate l.length d_bool):=⟨by simp,fun s hs=>by
  have hs':=List.eq_of_mem_replicate hs
  subst hs'
  have:0 < l.length:=by
    rcases Nat.eq_zero_or_pos l.length with e | e
    · rw [e] at hs; cases hs
    · exact e
  exact inb0 this,good_new l⟩
namespace best
noncomputable def bd:Code:=(Try.f15.body).getD .skip
noncomputable def X:Ctx U El:=⟨E,tds,zeros,eqs,specOf [(13,valid.sp),(35,within.sp)],100000,30,dspecOf [],mspecOf [(42,(mcSp draftOf.sp)),(43,(mcSp searchF.sp))]⟩
noncomputable def nmR:Norm U:=⟨[],[6,7,8],[],[(6,.slot)],[],[],[]⟩
noncomputable def RR:Kont U El:=fun st=>normK nmR st (retFin [6,7,8] [])
noncomputable def nm1:Norm U:=⟨[],[10,11,14],[3,5,9,10,11,12,13,14,23000,500001000,502300001,502300002],[],[(10,0,.slot,500001000),(23000,1,.slot,502300001),(23000,2,.bool,502300002)],[],[(3,0,.work),(23000,0,.work)]⟩
abbrev Y1:=(List Work)→Int→(List Slot)→Int→Int→Bool→(List Work)→(List Slot)→(List Bool)→R
noncomputable def fr0 (l:List Work) (crews:Int) (most:Int):St U El:=⟨[(0,(.lst .work l)),(1,(.int .i64 crews)),(2,(.int .i64 most))],[]⟩
noncomputable def fr1 (yA:List Work) (zA:Int) (uA:List Slot) (vA:Int) (wA:Int) (xA:Bool) (rA:List Work) (nA:List Slot) (oA:List Bool):St U El:=⟨[(10,(.ptr 10 0)),(11,(.ptr 11 0)),(14,(.ptr 14 0))],[(3,(.box 0 [(.lst .work yA)])),(5,(.box 0 [(.int .i64 zA)])),(9,(.box 0 [(.ptr 23000 0)])),(10,(.box 0 [(.ful 500001000)])),(11,(.box 0 [(.int .i64 vA)])),(12,(.box 0 [(.int .i64 wA)])),(13,(.box 0 [(.bool xA)])),(14,(.box 0 [(.fn 43 [] [(.ptr 12 0),(.ptr 5 0),(.ptr 3 0),(.ptr 13 0),(.ptr 11 0),(.ptr 9 0),(.ptr 10 0),(.ptr 14 0)])])),(23000,(.box 0 [(.lst .work rA),(.ful 502300001),(.ful 502300002)])),(500001000,(.rows .slot uA)),(502300001,(.rows .slot nA)),(502300002,(.rows .bool oA))]⟩
noncomputable def sh0 (l:List Work) (crews:Int) (most:Int) (k1:Y1):R :=
  chk (okV l) (condB (!(validB l crews)) (some ((.tup [(.lst .slot ([]:List Slot)),(.int .i64 (0:Int)),(.int .i64 (1:Int))]),[])) (condB (!((ile (1:Int) most&&ile most (100000:Int)))) (some ((.tup [(.lst .slot ([]:List Slot)),(.int .i64 (0:Int)),(.int .i64 (2:Int))]),[])) (chk (nle (List.length l) 90000) (k1 l most ([]:List Slot) (0:Int) (0:Int) false (l) (List.replicate (List.length l) d_slot) (List.replicate (List.length l) d_bool)))))
noncomputable def sh1 (yA:List Work) (zA:Int) (uA:List Slot) (vA:Int) (wA:Int) (xA:Bool) (rA:List Work) (nA:List Slot) (oA:List Bool):R :=
  chk (srP yA rA 200 (0:Int) nA oA) (condB (!((srch yA zA 200 (0:Int) (0:Int) (⟨wA,vA,xA,uA,nA,oA⟩:Sr)).1)) (some ((.tup [(.lst .slot ([]:List Slot)),(.int .i64 (0:Int)),(.int .i64 (6:Int))]),[])) (some ((.tup [(.lst .slot (Sr.best (srch yA zA 200 (0:Int) (0:Int) (⟨wA,vA,xA,uA,nA,oA⟩:Sr)).2)),(.int .i64 (Sr.least (srch yA zA 200 (0:Int) (0:Int) (⟨wA,vA,xA,uA,nA,oA⟩:Sr)).2)),(.int .i64 (0:Int))]),[])))
noncomputable def ct1:Kont U El:=fun st=>exec X (cdp [1,1,1,1,1,1,1,1] bd) .d st RR (fun _ _=>none) RR
theorem P0 (l crews most):exec X (cdp [] bd) (.seq none .d (.seq none .d (.seq none .d (.seq none .d (.seq none .d (.seq none .d (.seq none .d (.seq (some nm1) .d .d)))))))) (fr0 l crews most) RR (fun _ _=>none) RR=sh0 l crews most (fun y0 y1 y2 y3 y4 y5 y6 y7 y8=>(hid ct1) (fr1 y0 y1 y2 y3 y4 y5 y6 y7 y8)):=by kernel_rfl
theorem P1 (yA zA uA vA wA xA rA nA oA):ct1 (fr1 yA zA uA vA wA xA rA nA oA)=sh1 yA zA uA vA wA xA rA nA oA:=by kernel_rfl
noncomputable def f1 (yA:List Work) (zA:Int) (uA:List Slot) (vA:Int) (wA:Int) (xA:Bool) (rA:List Work) (nA:List Slot) (oA:List Bool):R:=sh1 yA zA uA vA wA xA rA nA oA
noncomputable def f0 (l:List Work) (crews:Int) (most:Int):R:=sh0 l crews most f1
theorem T1 (yA zA uA vA wA xA rA nA oA):(hid ct1) (fr1 yA zA uA vA wA xA rA nA oA)=f1 yA zA uA vA wA xA rA nA oA:=by
  refine (congrFun (hid_eq _) _).trans <| (P1 yA zA uA vA wA xA rA nA oA).trans ?_
  show _=sh1 yA zA uA vA wA xA rA nA oA
  rfl
theorem T0 (l crews most):exec X bd (.seq none .d (.seq none .d (.seq none .d (.seq none .d (.seq none .d (.seq none .d (.seq none .d (.seq (some nm1) .d .d)))))))) (fr0 l crews most) RR (fun _ _=>none) RR=f0 l crews most:=by
  refine (P0 l crews most).trans ?_
  show _=sh0 l crews most f1
  simp only [T1]
theorem run (l crews most):runFn X bd (.seq none .d (.seq none .d (.seq none .d (.seq none .d (.seq none .d (.seq none .d (.seq none .d (.seq (some nm1) .d .d)))))))) nmR [6,7,8] [] [(.lst .work l),(.int .i64 crews),(.int .i64 most)]=f0 l crews most:=T0 l crews most
theorem f0_eq (l:List Work) (crews most:Int) (h:okV l=true):f0 l crews most=outB3 (bestL l crews most,bestN l crews most,bestE l crews most):=by
  show sh0 l crews most f1=_
  unfold sh0 bestL bestN bestE bestG
  rw [h,chkT]
  cases hv:validB l crews with
  | false=>rfl
  | true =>
    cases hm:(ile 1 most&&ile most 100000) with
    | false=>rfl
    | true =>
      have hl:=(valid_of hv).len
      rw [nleT (show l.length≤90000 by omega)]
      show sh1 l most [] 0 0 false l (List.replicate l.length d_slot) (List.replicate l.length d_bool)=_
      unfold sh1
      have hP:srP l l 200 0 (List.replicate l.length d_slot) (List.replicate l.length d_bool)=true:=srP_iff.2 ⟨rfl,h,valid_up hv,GS_new l,0,rfl,by rw [cnt_rep]; omega,by rw [cnt_rep]; omega⟩
      rw [hP,chkT]
      have e:srch l most 200 0 0 (⟨0,0,false,[],List.replicate l.length d_slot,List.replicate l.length d_bool⟩:Sr)=bestR l most:=rfl
      rw [e]
      cases hb:(bestR l most).1<;>rfl
theorem ok:CtxOk Try.prog X:=ctxOk tab (spC valid.spOk (spC within.spOk spN)) dpN
theorem okM:MOk Try.prog X:=mspecOf_ok _ (mpC (mcSp_ok ok draftOf.spOk) (mpC (mcSp_ok ok searchF.spOk) mpN))
theorem spec (l:List Work) (crews:Int) (most:Int) (h:(okV l)=true):CallSpec Try.prog E 15 [(.lst .work l),(.int .i64 crews),(.int .i64 most)] (.tup [(.lst .slot (bestL l crews most)),(.int .i64 (bestN l crews most)),(.int .i64 (bestE l crews most))]) [] :=
  runFn_sound ok okM Try.call15 Try.func15 (by kernel_rfl) (by kernel_rfl) (by kernel_rfl) (by show 3≤30; decide) (by decide) (by rfl) ((run l crews most).trans (f0_eq l crews most h))
noncomputable def sp:Sp U El:=fun args k=>match args with
  | [.lst .work l,.int .i64 crews,.int .i64 most]=>chk (okV l) (k (.tup [(.lst .slot (bestL l crews most)),(.int .i64 (bestN l crews most)),(.int .i64 (bestE l crews most))]) [])
  | _=>none
theorem spOk:SpOk Try.prog E 15 sp where
  det:=fun vs=>by
    unfold sp
    split
    · exact det_c _ _ _
    · exact ⟨none,fun _=>rfl⟩
  ok:=fun vs k r h=>by
    unfold sp at h
    split at h
    · obtain ⟨h1, h2⟩ := chk_some h
      exact ⟨_,_,spec _ _ _ h1,h2⟩
    · cases h
end best
end Go.Proofs.Ythdklallcljhlaa
