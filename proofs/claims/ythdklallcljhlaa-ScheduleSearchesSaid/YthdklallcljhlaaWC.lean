/- The search for the best plan: a closure that calls itself. -/
import Derived.Test.YthdklallcljhlaaVX
namespace Go.Proofs.Ythdklallcljhlaa
set_option linter.unusedSectionVars false
set_option linter.unusedSimpArgs false
set_option linter.unusedVariables false
set_option maxRecDepth 100000
structure Sr where
  met:Int
  least:Int
  found:Bool
  best:List Slot
  sl:List Slot
  dn:List Bool
noncomputable def bk (l:List Work) (s:Sr) (i c:Int):Sr:=⟨s.met,s.least,s.found,s.best,List.set s.sl (Int.toNat i) ⟨i,c,aC l s.sl s.dn i c⟩,List.set s.dn (Int.toNat i) true⟩
noncomputable def ee (s:Sr) (i:Int):Sr:=⟨s.met,s.least,s.found,s.best,s.sl,List.set s.dn (Int.toNat i) false⟩
noncomputable def bn (rec_:Int→Sr→Bool×Sr) (l:List Work) (sum i:Int):List Int→Sr→Bool×Sr
  | [],s=>(true,s)
  | c :: t, s => bif !(rec_ (IntKind.wrap .i64 (sum + ba (List.getD l (Int.toNat i) aa) (aE l (List.getD (bk l s i c).sl (Int.toNat i) d_slot)))) (bk l s i c)).1 then (false, (rec_ (IntKind.wrap .i64 (sum + ba (List.getD l (Int.toNat i) aa) (aE l (List.getD (bk l s i c).sl (Int.toNat i) d_slot)))) (bk l s i c)).2) else
      bn rec_ l sum i t (ee (rec_ (IntKind.wrap .i64 (sum+ba (List.getD l (Int.toNat i) aa) (aE l (List.getD (bk l s i c).sl (Int.toNat i) d_slot)))) (bk l s i c)).2 i)
noncomputable def cd (rec_:Int→Sr→Bool×Sr) (l:List Work) (sum:Int):Nat→Nat→Sr→Bool×Sr
  | 0,_,s=>(true,s)
  | m+1,k,s=>bif bx l s.dn (k:Int) then (bif (bn rec_ l sum (k:Int) (List.getD l k aa).wc s).1 then cd rec_ l sum m (k+1) (bn rec_ l sum (k:Int) (List.getD l k aa).wc s).2 else (false,(bn rec_ l sum (k:Int) (List.getD l k aa).wc s).2)) else cd rec_ l sum m (k+1) s
noncomputable def di (l:List Work) (done sum:Int) (s:Sr):Sr:=bif (done == Int.ofNat l.length)&&(!s.found||ilt sum s.least) then ⟨s.met,sum,true,s.sl,s.sl,s.dn⟩ else s
noncomputable def aL (l:List Work) (most:Int):Nat→Int→Int→Sr→Bool×Sr
  | 0,_,_,s=>(true,s)
  | n+1,done,sum,s=>bif ilt most (IntKind.wrap .i64 (s.met+1)) then (false,⟨IntKind.wrap .i64 (s.met+1),s.least,s.found,s.best,s.sl,s.dn⟩) else cd (fun sum' s'=>aL l most n (IntKind.wrap .i64 (done+1)) sum' s') l sum l.length 0 (di l done sum ⟨IntKind.wrap .i64 (s.met+1),s.least,s.found,s.best,s.sl,s.dn⟩)
def sN (l lw:List Work) (n:Nat) (done:Int) (sl:List Slot) (dn:List Bool):Prop:=lw=l∧okV l=true∧aQ l 12=true∧GS l sl dn∧∃ d:Nat,done=(d:Int)∧d+bh dn=l.length∧bh dn < n
noncomputable def srP (l lw:List Work) (n:Nat) (done:Int) (sl:List Slot) (dn:List Bool):Bool:=@decide (sN l lw n done sl dn) (Classical.propDecidable _)
theorem srP_iff {l lw:List Work} {n:Nat} {done:Int} {sl:List Slot} {dn:List Bool}:srP l lw n done sl dn=true↔sN l lw n done sl dn:=@decide_eq_true_iff _ (Classical.propDecidable _)
theorem jQ {dn:List Bool} {q:Nat} (hq:q < dn.length) (h:List.getD dn q d_bool=false):List.set (List.set dn q true) q false=dn:=by
  rw [List.set_set]
  have:dn[q]=false:=by rw [← h,al hq]
  rw [← this]
  exact List.set_getElem_self ..
def my (l:List Work) (dn:List Bool) (r:Bool×Sr):Prop:=r.1=true→r.2.dn=dn∧GS l r.2.sl dn
theorem iw {l : List Work} {rec_ : Int → Sr → Bool × Sr} {sum : Int} {q : Nat} {dn : List Bool} (hq : q < l.length) (hr : bx l dn (q : Int) = true) (hrec : ∀ sum' s', s'.dn = dn.set q true → GS l s'.sl s'.dn → my l (dn.set q true) (rec_ sum' s')) : ∀ (cs : List Int) (s : Sr), s.dn = dn → GS l s.sl dn → my l dn (bn rec_ l sum (q : Int) cs s) := by
  intro cs
  induction cs with
  | nil=>intro s h1 h2 _; exact ⟨h1,h2⟩
  | cons c cs ih =>
    intro s h1 h2
    simp only [bn]
    obtain ⟨g1,g2⟩:=gK h2 hq hr c (aC l s.sl s.dn (q:Int) c)
    have hk:=hrec (IntKind.wrap .i64 (sum+ba (List.getD l (Int.toNat (q:Int)) aa) (aE l (List.getD (bk l s (q:Int) c).sl (Int.toNat (q:Int)) d_slot)))) (bk l s (q:Int) c) (by show List.set s.dn q true=_; rw [h1]) (by show GS l (List.set s.sl q _) (List.set s.dn q true); rw [h1] at g1 ⊢; exact g1)
    generalize rec_ (IntKind.wrap .i64 (sum+ba (List.getD l (Int.toNat (q:Int)) aa) (aE l (List.getD (bk l s (q:Int) c).sl (Int.toNat (q:Int)) d_slot)))) (bk l s (q:Int) c)=r at hk ⊢
    cases hb:r.1 with
    | false=>intro h; cases h
    | true =>
      obtain ⟨k1,k2⟩:=hk hb
      have hd:List.getD dn q d_bool=false:=(cT hr).1
      have hback:(ee r.2 (q:Int)).dn=dn:=by
        show List.set r.2.dn q false=dn
        rw [k1]
        exact jQ (by rw [h2.good.1]; exact hq) hd
      exact ih _ hback ⟨k2.len,k2.sw,h2.good⟩
theorem mz {l : List Work} {rec_ : Int → Sr → Bool × Sr} {sum : Int} {dn : List Bool} (hrec : ∀ q sum' s', q < l.length → bx l dn (q : Int) = true → s'.dn = dn.set q true → GS l s'.sl s'.dn → my l (dn.set q true) (rec_ sum' s')) : ∀ (m k : Nat) (s : Sr), k + m = l.length → s.dn = dn → GS l s.sl dn → my l dn (cd rec_ l sum m k s) := by
  intro m
  induction m with
  | zero=>intro k s _ h1 h2 _; exact ⟨h1,h2⟩
  | succ m ih =>
    intro k s hk h1 h2
    simp only [cd]
    rw [h1]
    cases hr:bx l dn (k:Int) with
    | false=>exact ih (k+1) s (by omega) h1 h2
    | true =>
      rw [cond_true]
      have hc:=iw (sum:=sum) (by omega) hr (fun sum' s'=>hrec k sum' s' (by omega) hr) (List.getD l k aa).wc s h1 h2
      generalize bn rec_ l sum (k:Int) (List.getD l k aa).wc s=r at hc ⊢
      cases hb:r.1 with
      | false=>intro h; cases h
      | true =>
        obtain ⟨k1,k2⟩:=hc hb
        exact ih (k+1) r.2 (by omega) k1 k2
theorem lk (l:List Work) (done sum:Int) (s:Sr):(di l done sum s).dn=s.dn∧(di l done sum s).sl=s.sl∧(di l done sum s).met=s.met:=by
  unfold di
  cases ((done == Int.ofNat l.length)&&(!s.found||ilt sum s.least))<;>exact ⟨rfl,rfl,rfl⟩
theorem jR {l : List Work} {most : Int} : ∀ (n : Nat) (done sum : Int) (s : Sr), GS l s.sl s.dn → bh s.dn < n → my l s.dn (aL l most n done sum s) := by
  intro n
  induction n with
  | zero=>intro done sum s _ h; omega
  | succ n ih =>
    intro done sum s hg hc
    simp only [aL]
    cases ilt most (IntKind.wrap .i64 (s.met+1)) with
    | true=>intro h; cases h
    | false =>
      rw [cond_false]
      obtain ⟨e1,e2,_⟩:=lk l done sum ⟨IntKind.wrap .i64 (s.met+1),s.least,s.found,s.best,s.sl,s.dn⟩
      refine mz (fun q sum' s' hq hr hd hg' => ?_) l.length 0 _ (by omega) e1 (by rw [e2]; exact hg)
      have:=ih (IntKind.wrap .i64 (done+1)) sum' s' hg' (by
        rw [hd]
        have:=dR s.dn q (by rw [hg.good.1]; exact hq) (cT hr).1
        omega)
      rw [hd] at this
      exact this
def SrC (n:Nat):Prop:=∀ (done:Int) (sum:Int) (met:Int) (most:Int) (l:List Work) (found:Bool) (least:Int) (lw:List Work) (bs:List Slot) (sl:List Slot) (dn:List Bool),(srP l lw n done sl dn)=true→MCall Try.prog E 43 [(.int .i64 done),(.int .i64 sum),(.ptr 1000000000 0),(.ptr 1000000001 0),(.ptr 1000000002 0),(.ptr 1000000003 0),(.ptr 1000000004 0),(.ptr 1000000005 0),(.ptr 1000000006 0),(.ptr 1000000007 0)] [(1000000000,(.box 1000000000 [(.int .i64 met)])),(1000000001,(.box 1000000001 [(.int .i64 most)])),(1000000002,(.box 1000000002 [(.lst .work l)])),(1000000003,(.box 1000000003 [(.bool found)])),(1000000004,(.box 1000000004 [(.int .i64 least)])),(1000000005,(.box 1000000005 [(.ptr 1000000008 0)])),(1000000006,(.box 1000000006 [(.ful 1000000009)])),(1000000007,(.box 1000000007 [(.fn 43 [] [(.ptr 1000000000 0),(.ptr 1000000001 0),(.ptr 1000000002 0),(.ptr 1000000003 0),(.ptr 1000000004 0),(.ptr 1000000005 0),(.ptr 1000000006 0),(.ptr 1000000007 0)])])),(1000000008,(.box 1000000008 [(.lst .work lw),(.ful 1000000010),(.ful 1000000011)])),(1000000009,(.rows .slot bs)),(1000000010,(.rows .slot sl)),(1000000011,(.rows .bool dn))] (.bool ((aL l most n done sum (⟨met,least,found,bs,sl,dn⟩:Sr)).1)) [(1000000000,(.box 1000000000 [(.int .i64 (Sr.met (aL l most n done sum (⟨met,least,found,bs,sl,dn⟩:Sr)).2))])),(1000000001,(.box 1000000001 [(.int .i64 most)])),(1000000002,(.box 1000000002 [(.lst .work l)])),(1000000003,(.box 1000000003 [(.bool (Sr.found (aL l most n done sum (⟨met,least,found,bs,sl,dn⟩:Sr)).2))])),(1000000004,(.box 1000000004 [(.int .i64 (Sr.least (aL l most n done sum (⟨met,least,found,bs,sl,dn⟩:Sr)).2))])),(1000000005,(.box 1000000005 [(.ptr 1000000008 0)])),(1000000006,(.box 1000000006 [(.ful 1000000009)])),(1000000007,(.box 1000000007 [(.fn 43 [] [(.ptr 1000000000 0),(.ptr 1000000001 0),(.ptr 1000000002 0),(.ptr 1000000003 0),(.ptr 1000000004 0),(.ptr 1000000005 0),(.ptr 1000000006 0),(.ptr 1000000007 0)])])),(1000000008,(.box 1000000008 [(.lst .work lw),(.ful 1000000010),(.ful 1000000011)])),(1000000009,(.rows .slot (Sr.best (aL l most n done sum (⟨met,least,found,bs,sl,dn⟩:Sr)).2))),(1000000010,(.rows .slot (Sr.sl (aL l most n done sum (⟨met,least,found,bs,sl,dn⟩:Sr)).2))),(1000000011,(.rows .bool (Sr.dn (aL l most n done sum (⟨met,least,found,bs,sl,dn⟩:Sr)).2)))]
class BndS where
  n:Nat
  ok:SrC n
section
variable [BndS]
namespace searchR
theorem spec (done:Int) (sum:Int) (met:Int) (most:Int) (l:List Work) (found:Bool) (least:Int) (lw:List Work) (bs:List Slot) (sl:List Slot) (dn:List Bool) (h:(srP l lw BndS.n done sl dn)=true):MCall Try.prog E 43 [(.int .i64 done),(.int .i64 sum),(.ptr 1000000000 0),(.ptr 1000000001 0),(.ptr 1000000002 0),(.ptr 1000000003 0),(.ptr 1000000004 0),(.ptr 1000000005 0),(.ptr 1000000006 0),(.ptr 1000000007 0)] [(1000000000,(.box 1000000000 [(.int .i64 met)])),(1000000001,(.box 1000000001 [(.int .i64 most)])),(1000000002,(.box 1000000002 [(.lst .work l)])),(1000000003,(.box 1000000003 [(.bool found)])),(1000000004,(.box 1000000004 [(.int .i64 least)])),(1000000005,(.box 1000000005 [(.ptr 1000000008 0)])),(1000000006,(.box 1000000006 [(.ful 1000000009)])),(1000000007,(.box 1000000007 [(.fn 43 [] [(.ptr 1000000000 0),(.ptr 1000000001 0),(.ptr 1000000002 0),(.ptr 1000000003 0),(.ptr 1000000004 0),(.ptr 1000000005 0),(.ptr 1000000006 0),(.ptr 1000000007 0)])])),(1000000008,(.box 1000000008 [(.lst .work lw),(.ful 1000000010),(.ful 1000000011)])),(1000000009,(.rows .slot bs)),(1000000010,(.rows .slot sl)),(1000000011,(.rows .bool dn))] (.bool ((aL l most BndS.n done sum (⟨met,least,found,bs,sl,dn⟩:Sr)).1)) [(1000000000,(.box 1000000000 [(.int .i64 (Sr.met (aL l most BndS.n done sum (⟨met,least,found,bs,sl,dn⟩:Sr)).2))])),(1000000001,(.box 1000000001 [(.int .i64 most)])),(1000000002,(.box 1000000002 [(.lst .work l)])),(1000000003,(.box 1000000003 [(.bool (Sr.found (aL l most BndS.n done sum (⟨met,least,found,bs,sl,dn⟩:Sr)).2))])),(1000000004,(.box 1000000004 [(.int .i64 (Sr.least (aL l most BndS.n done sum (⟨met,least,found,bs,sl,dn⟩:Sr)).2))])),(1000000005,(.box 1000000005 [(.ptr 1000000008 0)])),(1000000006,(.box 1000000006 [(.ful 1000000009)])),(1000000007,(.box 1000000007 [(.fn 43 [] [(.ptr 1000000000 0),(.ptr 1000000001 0),(.ptr 1000000002 0),(.ptr 1000000003 0),(.ptr 1000000004 0),(.ptr 1000000005 0),(.ptr 1000000006 0),(.ptr 1000000007 0)])])),(1000000008,(.box 1000000008 [(.lst .work lw),(.ful 1000000010),(.ful 1000000011)])),(1000000009,(.rows .slot (Sr.best (aL l most BndS.n done sum (⟨met,least,found,bs,sl,dn⟩:Sr)).2))),(1000000010,(.rows .slot (Sr.sl (aL l most BndS.n done sum (⟨met,least,found,bs,sl,dn⟩:Sr)).2))),(1000000011,(.rows .bool (Sr.dn (aL l most BndS.n done sum (⟨met,least,found,bs,sl,dn⟩:Sr)).2)))]:=BndS.ok _ _ _ _ _ _ _ _ _ _ _ h
noncomputable def sp:MSp U El:=fun args hs k=>match args,hs with
  | [.int .i64 done,.int .i64 sum,.ptr q0 0,.ptr q1 0,.ptr q2 0,.ptr q3 0,.ptr q4 0,.ptr q5 0,.ptr q6 0,.ptr q7 0],[(q8,.box q9 [.int .i64 met]),(q10,.box q11 [.int .i64 most]),(q12,.box q13 [.lst .work l]),(q14,.box q15 [.bool found]),(q16,.box q17 [.int .i64 least]),(q18,.box q19 [.ptr q20 0]),(q21,.box q22 [.ful q23]),(q24,.box q25 [.fn 43 [] [.ptr q26 0,.ptr q27 0,.ptr q28 0,.ptr q29 0,.ptr q30 0,.ptr q31 0,.ptr q32 0,.ptr q33 0]]),(q34,.box q35 [.lst .work lw,.ful q36,.ful q37]),(q38,.rows .slot bs),(q39,.rows .slot sl),(q40,.rows .bool dn)]=>chk (Nat.beq q0 1000000000&&(Nat.beq q1 1000000001&&(Nat.beq q2 1000000002&&(Nat.beq q3 1000000003&&(Nat.beq q4 1000000004&&(Nat.beq q5 1000000005&&(Nat.beq q6 1000000006&&(Nat.beq q7 1000000007&&(Nat.beq q8 1000000000&&(Nat.beq q9 1000000000&&(Nat.beq q10 1000000001&&(Nat.beq q11 1000000001&&(Nat.beq q12 1000000002&&(Nat.beq q13 1000000002&&(Nat.beq q14 1000000003&&(Nat.beq q15 1000000003&&(Nat.beq q16 1000000004&&(Nat.beq q17 1000000004&&(Nat.beq q18 1000000005&&(Nat.beq q19 1000000005&&(Nat.beq q20 1000000008&&(Nat.beq q21 1000000006&&(Nat.beq q22 1000000006&&(Nat.beq q23 1000000009&&(Nat.beq q24 1000000007&&(Nat.beq q25 1000000007&&(Nat.beq q26 1000000000&&(Nat.beq q27 1000000001&&(Nat.beq q28 1000000002&&(Nat.beq q29 1000000003&&(Nat.beq q30 1000000004&&(Nat.beq q31 1000000005&&(Nat.beq q32 1000000006&&(Nat.beq q33 1000000007&&(Nat.beq q34 1000000008&&(Nat.beq q35 1000000008&&(Nat.beq q36 1000000010&&(Nat.beq q37 1000000011&&(Nat.beq q38 1000000009&&(Nat.beq q39 1000000010&&(Nat.beq q40 1000000011&&true))))))))))))))))))))))))))))))))))))))))) (chk (srP l lw BndS.n done sl dn) (k (.bool ((aL l most BndS.n done sum (⟨met,least,found,bs,sl,dn⟩:Sr)).1)) [(1000000000,(.box 1000000000 [(.int .i64 (Sr.met (aL l most BndS.n done sum (⟨met,least,found,bs,sl,dn⟩:Sr)).2))])),(1000000001,(.box 1000000001 [(.int .i64 most)])),(1000000002,(.box 1000000002 [(.lst .work l)])),(1000000003,(.box 1000000003 [(.bool (Sr.found (aL l most BndS.n done sum (⟨met,least,found,bs,sl,dn⟩:Sr)).2))])),(1000000004,(.box 1000000004 [(.int .i64 (Sr.least (aL l most BndS.n done sum (⟨met,least,found,bs,sl,dn⟩:Sr)).2))])),(1000000005,(.box 1000000005 [(.ptr 1000000008 0)])),(1000000006,(.box 1000000006 [(.ful 1000000009)])),(1000000007,(.box 1000000007 [(.fn 43 [] [(.ptr 1000000000 0),(.ptr 1000000001 0),(.ptr 1000000002 0),(.ptr 1000000003 0),(.ptr 1000000004 0),(.ptr 1000000005 0),(.ptr 1000000006 0),(.ptr 1000000007 0)])])),(1000000008,(.box 1000000008 [(.lst .work lw),(.ful 1000000010),(.ful 1000000011)])),(1000000009,(.rows .slot (Sr.best (aL l most BndS.n done sum (⟨met,least,found,bs,sl,dn⟩:Sr)).2))),(1000000010,(.rows .slot (Sr.sl (aL l most BndS.n done sum (⟨met,least,found,bs,sl,dn⟩:Sr)).2))),(1000000011,(.rows .bool (Sr.dn (aL l most BndS.n done sum (⟨met,least,found,bs,sl,dn⟩:Sr)).2)))]))
  | _,_=>none
theorem spOk:cJ Try.prog E 43 sp:=⟨Try.call43,fun args hs k r h=>by
  unfold sp at h
  split at h
  · obtain ⟨hq, hA⟩ := ab h
    clear h
    simp only [Bool.and_eq_true] at hq
    obtain ⟨e0,e1,e2,e3,e4,e5,e6,e7,e8,e9,e10,e11,e12,e13,e14,e15,e16,e17,e18,e19,e20,e21,e22,e23,e24,e25,e26,e27,e28,e29,e30,e31,e32,e33,e34,e35,e36,e37,e38,e39,e40,_⟩:=hq
    cases Nat.eq_of_beq_eq_true e0
    cases Nat.eq_of_beq_eq_true e1
    cases Nat.eq_of_beq_eq_true e2
    cases Nat.eq_of_beq_eq_true e3
    cases Nat.eq_of_beq_eq_true e4
    cases Nat.eq_of_beq_eq_true e5
    cases Nat.eq_of_beq_eq_true e6
    cases Nat.eq_of_beq_eq_true e7
    cases Nat.eq_of_beq_eq_true e8
    cases Nat.eq_of_beq_eq_true e9
    cases Nat.eq_of_beq_eq_true e10
    cases Nat.eq_of_beq_eq_true e11
    cases Nat.eq_of_beq_eq_true e12
    cases Nat.eq_of_beq_eq_true e13
    cases Nat.eq_of_beq_eq_true e14
    cases Nat.eq_of_beq_eq_true e15
    cases Nat.eq_of_beq_eq_true e16
    cases Nat.eq_of_beq_eq_true e17
    cases Nat.eq_of_beq_eq_true e18
    cases Nat.eq_of_beq_eq_true e19
    cases Nat.eq_of_beq_eq_true e20
    cases Nat.eq_of_beq_eq_true e21
    cases Nat.eq_of_beq_eq_true e22
    cases Nat.eq_of_beq_eq_true e23
    cases Nat.eq_of_beq_eq_true e24
    cases Nat.eq_of_beq_eq_true e25
    cases Nat.eq_of_beq_eq_true e26
    cases Nat.eq_of_beq_eq_true e27
    cases Nat.eq_of_beq_eq_true e28
    cases Nat.eq_of_beq_eq_true e29
    cases Nat.eq_of_beq_eq_true e30
    cases Nat.eq_of_beq_eq_true e31
    cases Nat.eq_of_beq_eq_true e32
    cases Nat.eq_of_beq_eq_true e33
    cases Nat.eq_of_beq_eq_true e34
    cases Nat.eq_of_beq_eq_true e35
    cases Nat.eq_of_beq_eq_true e36
    cases Nat.eq_of_beq_eq_true e37
    cases Nat.eq_of_beq_eq_true e38
    cases Nat.eq_of_beq_eq_true e39
    cases Nat.eq_of_beq_eq_true e40
    obtain ⟨h1,hB⟩:=ab hA
    exact ⟨_,_,spec _ _ _ _ _ _ _ _ _ _ _ h1,hB⟩
  · cases h⟩
theorem spDet:∀ args hs,∃ oo:Option (AV U El×ar U El),∀ k,sp args hs k=oo.bind fun p=>k p.1 p.2:=fun args hs=>by
  unfold sp
  split
  · exact aO (aO ⟨some (_,_),fun _=>rfl⟩)
  · exact ⟨none,fun _=>rfl⟩
end searchR
noncomputable def mB (r:Bool×Sr) (most:Int) (l lw:List Work):R:=some ((.bool r.1),[(1000000000,(.box 1000000000 [(.int .i64 r.2.met)])),(1000000001,(.box 1000000001 [(.int .i64 most)])),(1000000002,(.box 1000000002 [(.lst .work l)])),(1000000003,(.box 1000000003 [(.bool r.2.found)])),(1000000004,(.box 1000000004 [(.int .i64 r.2.least)])),(1000000005,(.box 1000000005 [(.ptr 1000000008 0)])),(1000000006,(.box 1000000006 [(.ful 1000000009)])),(1000000007,(.box 1000000007 [(.fn 43 [] [(.ptr 1000000000 0),(.ptr 1000000001 0),(.ptr 1000000002 0),(.ptr 1000000003 0),(.ptr 1000000004 0),(.ptr 1000000005 0),(.ptr 1000000006 0),(.ptr 1000000007 0)])])),(1000000008,(.box 1000000008 [(.lst .work lw),(.ful 1000000010),(.ful 1000000011)])),(1000000009,(.rows .slot r.2.best)),(1000000010,(.rows .slot r.2.sl)),(1000000011,(.rows .bool r.2.dn))])
namespace search
noncomputable def bd:Code:=(Try.f43.body).getD .skip
noncomputable def X:Ctx U El:=⟨E,tds,zeros,eqs,aG [(21,cloneS.sp),(44,ready.sp),(46,late.sp),(47,endc.sp)],100000,92,aD [(43,searchR.sp)],cg [(45,(gz place.sp))]⟩
noncomputable def nmR:Norm U:=⟨[],[12],[1000000000,1000000001,1000000002,1000000003,1000000004,1000000005,1000000006,1000000007,1000000008,1000000009,1000000010,1000000011],[],[(1000000006,0,.slot,1000000009),(1000000008,1,.slot,1000000010),(1000000008,2,.bool,1000000011)],[],[]⟩
noncomputable def RR:ae U El:=fun st=>aM nmR st (dI [12])
noncomputable def nm1:Norm U:=⟨[],[0,1,4,7,9],[1000000000,1000000001,1000000002,1000000003,1000000004,1000000005,1000000006,1000000007,1000000008,1000000009,1000000010,1000000011],[],[(1000000006,0,.slot,1000000009),(1000000008,1,.slot,1000000010),(1000000008,2,.bool,1000000011)],[],[(1000000002,0,.work),(1000000008,0,.work)]⟩
noncomputable def nm2:Norm U:=⟨[],[],[1000000000,1000000001,1000000002,1000000003,1000000004,1000000005,1000000006,1000000007,1000000008,1000000009,1000000010,1000000011],[],[(1000000006,0,.slot,1000000009),(1000000008,1,.slot,1000000010),(1000000008,2,.bool,1000000011)],[],[(1000000002,0,.work),(1000000008,0,.work)]⟩
noncomputable def nm3:Norm U:=⟨[],[0,1,4,7,9,41,42],[1000000000,1000000001,1000000002,1000000003,1000000004,1000000005,1000000006,1000000007,1000000008,1000000009,1000000010,1000000011],[],[(1000000006,0,.slot,1000000009),(1000000008,1,.slot,1000000010),(1000000008,2,.bool,1000000011)],[],[(1000000002,0,.work),(1000000008,0,.work)]⟩
noncomputable def nm4:Norm U:=⟨[],[0,1,4,7,9,41,42],[1000000000,1000000001,1000000002,1000000003,1000000004,1000000005,1000000006,1000000007,1000000008,1000000009,1000000010,1000000011],[],[(1000000006,0,.slot,1000000009),(1000000008,1,.slot,1000000010),(1000000008,2,.bool,1000000011)],[],[(1000000002,0,.work),(1000000008,0,.work)]⟩
noncomputable def nm5:Norm U:=⟨[],[0,1,4,7,9,13,41,42,53,54,55],[1000000000,1000000001,1000000002,1000000003,1000000004,1000000005,1000000006,1000000007,1000000008,1000000009,1000000010,1000000011],[],[(1000000006,0,.slot,1000000009),(1000000008,1,.slot,1000000010),(1000000008,2,.bool,1000000011)],[],[(1000000002,0,.work),(1000000008,0,.work)]⟩
abbrev Y1:=Int→Int→Int→Int→(List Work)→Bool→Int→(List Slot)→(List Work)→(List Slot)→(List Bool)→R
abbrev Y2:=Int→Int→(List Work)→Bool→Int→(List Slot)→(List Work)→(List Slot)→(List Bool)→R
abbrev Y3:=Int→Int→Int→Int→Int→Int→(List Work)→Bool→Int→(List Slot)→(List Work)→(List Slot)→(List Bool)→R
abbrev Y4:=Int→Int→Int→Int→Int→Int→(List Work)→Bool→Int→(List Slot)→(List Work)→(List Slot)→(List Bool)→R
abbrev Y5:=Int→Int→Int→Int→Int→(List Int)→Int→Int→Int→Int→(List Work)→Bool→Int→(List Slot)→(List Work)→(List Slot)→(List Bool)→R
noncomputable def fr0 (done:Int) (sum:Int) (met:Int) (most:Int) (l:List Work) (found:Bool) (least:Int) (lw:List Work) (bs:List Slot) (sl:List Slot) (dn:List Bool):St U El:=⟨[(0,(.int .i64 done)),(1,(.int .i64 sum)),(2,(.ptr 1000000000 0)),(3,(.ptr 1000000001 0)),(4,(.ptr 1000000002 0)),(5,(.ptr 1000000003 0)),(6,(.ptr 1000000004 0)),(7,(.ptr 1000000005 0)),(8,(.ptr 1000000006 0)),(9,(.ptr 1000000007 0))],[(1000000000,(.box 1000000000 [(.int .i64 met)])),(1000000001,(.box 1000000001 [(.int .i64 most)])),(1000000002,(.box 1000000002 [(.lst .work l)])),(1000000003,(.box 1000000003 [(.bool found)])),(1000000004,(.box 1000000004 [(.int .i64 least)])),(1000000005,(.box 1000000005 [(.ptr 1000000008 0)])),(1000000006,(.box 1000000006 [(.ful 1000000009)])),(1000000007,(.box 1000000007 [(.fn 43 [] [(.ptr 1000000000 0),(.ptr 1000000001 0),(.ptr 1000000002 0),(.ptr 1000000003 0),(.ptr 1000000004 0),(.ptr 1000000005 0),(.ptr 1000000006 0),(.ptr 1000000007 0)])])),(1000000008,(.box 1000000008 [(.lst .work lw),(.ful 1000000010),(.ful 1000000011)])),(1000000009,(.rows .slot bs)),(1000000010,(.rows .slot sl)),(1000000011,(.rows .bool dn))]⟩
noncomputable def fr1 (kA:Int) (lA:Int) (fA:Int) (eA:Int) (bA:List Work) (gA:Bool) (iA:Int) (jA:List Slot) (dA:List Work) (aA:List Slot) (cA:List Bool):St U El:=⟨[(0,(.int .i64 kA)),(1,(.int .i64 lA)),(4,(.ptr 1000000002 0)),(7,(.ptr 1000000005 0)),(9,(.ptr 1000000007 0))],[(1000000000,(.box 1000000000 [(.int .i64 fA)])),(1000000001,(.box 1000000001 [(.int .i64 eA)])),(1000000002,(.box 1000000002 [(.lst .work bA)])),(1000000003,(.box 1000000003 [(.bool gA)])),(1000000004,(.box 1000000004 [(.int .i64 iA)])),(1000000005,(.box 1000000005 [(.ptr 1000000008 0)])),(1000000006,(.box 1000000006 [(.ful 1000000009)])),(1000000007,(.box 1000000007 [(.fn 43 [] [(.ptr 1000000000 0),(.ptr 1000000001 0),(.ptr 1000000002 0),(.ptr 1000000003 0),(.ptr 1000000004 0),(.ptr 1000000005 0),(.ptr 1000000006 0),(.ptr 1000000007 0)])])),(1000000008,(.box 1000000008 [(.lst .work dA),(.ful 1000000010),(.ful 1000000011)])),(1000000009,(.rows .slot jA)),(1000000010,(.rows .slot aA)),(1000000011,(.rows .bool cA))]⟩
noncomputable def fr2 (fA:Int) (eA:Int) (bA:List Work) (gA:Bool) (iA:Int) (jA:List Slot) (dA:List Work) (aA:List Slot) (cA:List Bool):St U El:=⟨[],[(1000000000,(.box 1000000000 [(.int .i64 fA)])),(1000000001,(.box 1000000001 [(.int .i64 eA)])),(1000000002,(.box 1000000002 [(.lst .work bA)])),(1000000003,(.box 1000000003 [(.bool gA)])),(1000000004,(.box 1000000004 [(.int .i64 iA)])),(1000000005,(.box 1000000005 [(.ptr 1000000008 0)])),(1000000006,(.box 1000000006 [(.ful 1000000009)])),(1000000007,(.box 1000000007 [(.fn 43 [] [(.ptr 1000000000 0),(.ptr 1000000001 0),(.ptr 1000000002 0),(.ptr 1000000003 0),(.ptr 1000000004 0),(.ptr 1000000005 0),(.ptr 1000000006 0),(.ptr 1000000007 0)])])),(1000000008,(.box 1000000008 [(.lst .work dA),(.ful 1000000010),(.ful 1000000011)])),(1000000009,(.rows .slot jA)),(1000000010,(.rows .slot aA)),(1000000011,(.rows .bool cA))]⟩
noncomputable def fr3 (kA:Int) (lA:Int) (tA:Int) (sA:Int) (fA:Int) (eA:Int) (bA:List Work) (gA:Bool) (iA:Int) (jA:List Slot) (dA:List Work) (aA:List Slot) (cA:List Bool):St U El:=⟨[(0,(.int .i64 kA)),(1,(.int .i64 lA)),(4,(.ptr 1000000002 0)),(7,(.ptr 1000000005 0)),(9,(.ptr 1000000007 0)),(41,(.int .i64 tA)),(42,(.int .i64 sA))],[(1000000000,(.box 1000000000 [(.int .i64 fA)])),(1000000001,(.box 1000000001 [(.int .i64 eA)])),(1000000002,(.box 1000000002 [(.lst .work bA)])),(1000000003,(.box 1000000003 [(.bool gA)])),(1000000004,(.box 1000000004 [(.int .i64 iA)])),(1000000005,(.box 1000000005 [(.ptr 1000000008 0)])),(1000000006,(.box 1000000006 [(.ful 1000000009)])),(1000000007,(.box 1000000007 [(.fn 43 [] [(.ptr 1000000000 0),(.ptr 1000000001 0),(.ptr 1000000002 0),(.ptr 1000000003 0),(.ptr 1000000004 0),(.ptr 1000000005 0),(.ptr 1000000006 0),(.ptr 1000000007 0)])])),(1000000008,(.box 1000000008 [(.lst .work dA),(.ful 1000000010),(.ful 1000000011)])),(1000000009,(.rows .slot jA)),(1000000010,(.rows .slot aA)),(1000000011,(.rows .bool cA))]⟩
noncomputable def fr4 (kA:Int) (lA:Int) (tA:Int) (sA:Int) (fA:Int) (eA:Int) (bA:List Work) (gA:Bool) (iA:Int) (jA:List Slot) (dA:List Work) (aA:List Slot) (cA:List Bool):St U El:=⟨[(0,(.int .i64 kA)),(1,(.int .i64 lA)),(4,(.ptr 1000000002 0)),(7,(.ptr 1000000005 0)),(9,(.ptr 1000000007 0)),(41,(.int .i64 tA)),(42,(.int .i64 sA))],[(1000000000,(.box 1000000000 [(.int .i64 fA)])),(1000000001,(.box 1000000001 [(.int .i64 eA)])),(1000000002,(.box 1000000002 [(.lst .work bA)])),(1000000003,(.box 1000000003 [(.bool gA)])),(1000000004,(.box 1000000004 [(.int .i64 iA)])),(1000000005,(.box 1000000005 [(.ptr 1000000008 0)])),(1000000006,(.box 1000000006 [(.ful 1000000009)])),(1000000007,(.box 1000000007 [(.fn 43 [] [(.ptr 1000000000 0),(.ptr 1000000001 0),(.ptr 1000000002 0),(.ptr 1000000003 0),(.ptr 1000000004 0),(.ptr 1000000005 0),(.ptr 1000000006 0),(.ptr 1000000007 0)])])),(1000000008,(.box 1000000008 [(.lst .work dA),(.ful 1000000010),(.ful 1000000011)])),(1000000009,(.rows .slot jA)),(1000000010,(.rows .slot aA)),(1000000011,(.rows .bool cA))]⟩
noncomputable def fr5 (kA:Int) (lA:Int) (mA:Int) (tA:Int) (sA:Int) (qA:List Int) (aB:Int) (pA:Int) (fA:Int) (eA:Int) (bA:List Work) (gA:Bool) (iA:Int) (jA:List Slot) (dA:List Work) (aA:List Slot) (cA:List Bool):St U El:=⟨[(0,(.int .i64 kA)),(1,(.int .i64 lA)),(4,(.ptr 1000000002 0)),(7,(.ptr 1000000005 0)),(9,(.ptr 1000000007 0)),(13,(.int .i64 mA)),(41,(.int .i64 tA)),(42,(.int .i64 sA)),(53,(.lst .int qA)),(54,(.int .i64 aB)),(55,(.int .i64 pA))],[(1000000000,(.box 1000000000 [(.int .i64 fA)])),(1000000001,(.box 1000000001 [(.int .i64 eA)])),(1000000002,(.box 1000000002 [(.lst .work bA)])),(1000000003,(.box 1000000003 [(.bool gA)])),(1000000004,(.box 1000000004 [(.int .i64 iA)])),(1000000005,(.box 1000000005 [(.ptr 1000000008 0)])),(1000000006,(.box 1000000006 [(.ful 1000000009)])),(1000000007,(.box 1000000007 [(.fn 43 [] [(.ptr 1000000000 0),(.ptr 1000000001 0),(.ptr 1000000002 0),(.ptr 1000000003 0),(.ptr 1000000004 0),(.ptr 1000000005 0),(.ptr 1000000006 0),(.ptr 1000000007 0)])])),(1000000008,(.box 1000000008 [(.lst .work dA),(.ful 1000000010),(.ful 1000000011)])),(1000000009,(.rows .slot jA)),(1000000010,(.rows .slot aA)),(1000000011,(.rows .bool cA))]⟩
noncomputable def sh0 (done:Int) (sum:Int) (met:Int) (most:Int) (l:List Work) (found:Bool) (least:Int) (lw:List Work) (bs:List Slot) (sl:List Slot) (dn:List Bool) (k1:Y1):R :=
  ah (ilt most (IntKind.wrap .i64 (met+(1:Int)))) (some ((.bool false),[(1000000000,(.box 1000000000 [(.int .i64 (IntKind.wrap .i64 (met+(1:Int))))])),(1000000001,(.box 1000000001 [(.int .i64 most)])),(1000000002,(.box 1000000002 [(.lst .work l)])),(1000000003,(.box 1000000003 [(.bool found)])),(1000000004,(.box 1000000004 [(.int .i64 least)])),(1000000005,(.box 1000000005 [(.ptr 1000000008 0)])),(1000000006,(.box 1000000006 [(.ful 1000000009)])),(1000000007,(.box 1000000007 [(.fn 43 [] [(.ptr 1000000000 0),(.ptr 1000000001 0),(.ptr 1000000002 0),(.ptr 1000000003 0),(.ptr 1000000004 0),(.ptr 1000000005 0),(.ptr 1000000006 0),(.ptr 1000000007 0)])])),(1000000008,(.box 1000000008 [(.lst .work lw),(.ful 1000000010),(.ful 1000000011)])),(1000000009,(.rows .slot bs)),(1000000010,(.rows .slot sl)),(1000000011,(.rows .bool dn))])) (ah (done == (Int.ofNat (List.length l))) (ah (!found) (chk (nle (List.length sl) 90000) (k1 done sum (IntKind.wrap .i64 (met+(1:Int))) most l true sum (sl) lw sl dn)) (ah (ilt sum least) (chk (nle (List.length sl) 90000) (k1 done sum (IntKind.wrap .i64 (met+(1:Int))) most l true sum (sl) lw sl dn)) (k1 done sum (IntKind.wrap .i64 (met+(1:Int))) most l found least bs lw sl dn))) (k1 done sum (IntKind.wrap .i64 (met+(1:Int))) most l found least bs lw sl dn))
noncomputable def sh1 (kA:Int) (lA:Int) (fA:Int) (eA:Int) (bA:List Work) (gA:Bool) (iA:Int) (jA:List Slot) (dA:List Work) (aA:List Slot) (cA:List Bool) (k3:Y3):R :=
  k3 kA lA (Int.ofNat (List.length bA)) (0:Int) fA eA bA gA iA jA dA aA cA
noncomputable def sh2 (fA:Int) (eA:Int) (bA:List Work) (gA:Bool) (iA:Int) (jA:List Slot) (dA:List Work) (aA:List Slot) (cA:List Bool):R :=
  some ((.bool true),[(1000000000,(.box 1000000000 [(.int .i64 fA)])),(1000000001,(.box 1000000001 [(.int .i64 eA)])),(1000000002,(.box 1000000002 [(.lst .work bA)])),(1000000003,(.box 1000000003 [(.bool gA)])),(1000000004,(.box 1000000004 [(.int .i64 iA)])),(1000000005,(.box 1000000005 [(.ptr 1000000008 0)])),(1000000006,(.box 1000000006 [(.ful 1000000009)])),(1000000007,(.box 1000000007 [(.fn 43 [] [(.ptr 1000000000 0),(.ptr 1000000001 0),(.ptr 1000000002 0),(.ptr 1000000003 0),(.ptr 1000000004 0),(.ptr 1000000005 0),(.ptr 1000000006 0),(.ptr 1000000007 0)])])),(1000000008,(.box 1000000008 [(.lst .work dA),(.ful 1000000010),(.ful 1000000011)])),(1000000009,(.rows .slot jA)),(1000000010,(.rows .slot aA)),(1000000011,(.rows .bool cA))])
noncomputable def sh3 (kA:Int) (lA:Int) (tA:Int) (sA:Int) (fA:Int) (eA:Int) (bA:List Work) (gA:Bool) (iA:Int) (jA:List Slot) (dA:List Work) (aA:List Slot) (cA:List Bool) (k2:Y2) (k4:Y4) (k5:Y5):R :=
  ah (ilt sA tA) (chk (okR dA cA sA) (ah (!(bx dA cA sA)) (k4 kA lA tA sA fA eA bA gA iA jA dA aA cA) (chk (inb sA (List.length bA)) (k5 kA lA sA tA sA ((List.getD bA (Int.toNat sA) aa).wc) (Int.ofNat (List.length ((List.getD bA (Int.toNat sA) aa).wc))) (0:Int) fA eA bA gA iA jA dA aA cA)))) (k2 fA eA bA gA iA jA dA aA cA)
noncomputable def sh4 (kA:Int) (lA:Int) (tA:Int) (sA:Int) (fA:Int) (eA:Int) (bA:List Work) (gA:Bool) (iA:Int) (jA:List Slot) (dA:List Work) (aA:List Slot) (cA:List Bool) (k3:Y3):R :=
  k3 kA lA tA (IntKind.wrap .i64 (sA+(1:Int))) fA eA bA gA iA jA dA aA cA
noncomputable def sh5 (kA:Int) (lA:Int) (mA:Int) (tA:Int) (sA:Int) (qA:List Int) (aB:Int) (pA:Int) (fA:Int) (eA:Int) (bA:List Work) (gA:Bool) (iA:Int) (jA:List Slot) (dA:List Work) (aA:List Slot) (cA:List Bool) (k4:Y4) (k5:Y5):R :=
  ah (ilt pA aB) (chk (inb pA (List.length qA)) (chk (okS dA aA cA mA) (chk (inb mA (List.length bA)) (chk (inb mA (List.length (List.set aA (Int.toNat mA) (⟨mA,(List.getD qA (Int.toNat pA) d_int),aC dA aA cA mA (List.getD qA (Int.toNat pA) d_int)⟩:Slot)))) (chk (nlt (Int.toNat mA) (List.length (List.set aA (Int.toNat mA) (⟨mA,(List.getD qA (Int.toNat pA) d_int),aC dA aA cA mA (List.getD qA (Int.toNat pA) d_int)⟩:Slot)))) (chk (inb (Slot.sw (List.getD (List.set aA (Int.toNat mA) (⟨mA,(List.getD qA (Int.toNat pA) d_int),aC dA aA cA mA (List.getD qA (Int.toNat pA) d_int)⟩:Slot)) (Int.toNat mA) d_slot)) (List.length bA)) (chk (srP bA dA BndS.n (IntKind.wrap .i64 (kA+(1:Int))) (List.set aA (Int.toNat mA) (⟨mA,(List.getD qA (Int.toNat pA) d_int),aC dA aA cA mA (List.getD qA (Int.toNat pA) d_int)⟩:Slot)) (List.set cA (Int.toNat mA) true)) (ah (!((aL bA eA BndS.n (IntKind.wrap .i64 (kA+(1:Int))) (IntKind.wrap .i64 (lA+(ba (List.getD bA (Int.toNat mA) aa) (aE bA (List.getD (List.set aA (Int.toNat mA) (⟨mA,(List.getD qA (Int.toNat pA) d_int),aC dA aA cA mA (List.getD qA (Int.toNat pA) d_int)⟩:Slot)) (Int.toNat mA) d_slot))))) (⟨fA,iA,gA,jA,(List.set aA (Int.toNat mA) (⟨mA,(List.getD qA (Int.toNat pA) d_int),aC dA aA cA mA (List.getD qA (Int.toNat pA) d_int)⟩:Slot)),(List.set cA (Int.toNat mA) true)⟩:Sr)).1)) (some ((.bool false),[(1000000000,(.box 1000000000 [(.int .i64 (Sr.met (aL bA eA BndS.n (IntKind.wrap .i64 (kA+(1:Int))) (IntKind.wrap .i64 (lA+(ba (List.getD bA (Int.toNat mA) aa) (aE bA (List.getD (List.set aA (Int.toNat mA) (⟨mA,(List.getD qA (Int.toNat pA) d_int),aC dA aA cA mA (List.getD qA (Int.toNat pA) d_int)⟩:Slot)) (Int.toNat mA) d_slot))))) (⟨fA,iA,gA,jA,(List.set aA (Int.toNat mA) (⟨mA,(List.getD qA (Int.toNat pA) d_int),aC dA aA cA mA (List.getD qA (Int.toNat pA) d_int)⟩:Slot)),(List.set cA (Int.toNat mA) true)⟩:Sr)).2))])),(1000000001,(.box 1000000001 [(.int .i64 eA)])),(1000000002,(.box 1000000002 [(.lst .work bA)])),(1000000003,(.box 1000000003 [(.bool (Sr.found (aL bA eA BndS.n (IntKind.wrap .i64 (kA+(1:Int))) (IntKind.wrap .i64 (lA+(ba (List.getD bA (Int.toNat mA) aa) (aE bA (List.getD (List.set aA (Int.toNat mA) (⟨mA,(List.getD qA (Int.toNat pA) d_int),aC dA aA cA mA (List.getD qA (Int.toNat pA) d_int)⟩:Slot)) (Int.toNat mA) d_slot))))) (⟨fA,iA,gA,jA,(List.set aA (Int.toNat mA) (⟨mA,(List.getD qA (Int.toNat pA) d_int),aC dA aA cA mA (List.getD qA (Int.toNat pA) d_int)⟩:Slot)),(List.set cA (Int.toNat mA) true)⟩:Sr)).2))])),(1000000004,(.box 1000000004 [(.int .i64 (Sr.least (aL bA eA BndS.n (IntKind.wrap .i64 (kA+(1:Int))) (IntKind.wrap .i64 (lA+(ba (List.getD bA (Int.toNat mA) aa) (aE bA (List.getD (List.set aA (Int.toNat mA) (⟨mA,(List.getD qA (Int.toNat pA) d_int),aC dA aA cA mA (List.getD qA (Int.toNat pA) d_int)⟩:Slot)) (Int.toNat mA) d_slot))))) (⟨fA,iA,gA,jA,(List.set aA (Int.toNat mA) (⟨mA,(List.getD qA (Int.toNat pA) d_int),aC dA aA cA mA (List.getD qA (Int.toNat pA) d_int)⟩:Slot)),(List.set cA (Int.toNat mA) true)⟩:Sr)).2))])),(1000000005,(.box 1000000005 [(.ptr 1000000008 0)])),(1000000006,(.box 1000000006 [(.ful 1000000009)])),(1000000007,(.box 1000000007 [(.fn 43 [] [(.ptr 1000000000 0),(.ptr 1000000001 0),(.ptr 1000000002 0),(.ptr 1000000003 0),(.ptr 1000000004 0),(.ptr 1000000005 0),(.ptr 1000000006 0),(.ptr 1000000007 0)])])),(1000000008,(.box 1000000008 [(.lst .work dA),(.ful 1000000010),(.ful 1000000011)])),(1000000009,(.rows .slot (Sr.best (aL bA eA BndS.n (IntKind.wrap .i64 (kA+(1:Int))) (IntKind.wrap .i64 (lA+(ba (List.getD bA (Int.toNat mA) aa) (aE bA (List.getD (List.set aA (Int.toNat mA) (⟨mA,(List.getD qA (Int.toNat pA) d_int),aC dA aA cA mA (List.getD qA (Int.toNat pA) d_int)⟩:Slot)) (Int.toNat mA) d_slot))))) (⟨fA,iA,gA,jA,(List.set aA (Int.toNat mA) (⟨mA,(List.getD qA (Int.toNat pA) d_int),aC dA aA cA mA (List.getD qA (Int.toNat pA) d_int)⟩:Slot)),(List.set cA (Int.toNat mA) true)⟩:Sr)).2))),(1000000010,(.rows .slot (Sr.sl (aL bA eA BndS.n (IntKind.wrap .i64 (kA+(1:Int))) (IntKind.wrap .i64 (lA+(ba (List.getD bA (Int.toNat mA) aa) (aE bA (List.getD (List.set aA (Int.toNat mA) (⟨mA,(List.getD qA (Int.toNat pA) d_int),aC dA aA cA mA (List.getD qA (Int.toNat pA) d_int)⟩:Slot)) (Int.toNat mA) d_slot))))) (⟨fA,iA,gA,jA,(List.set aA (Int.toNat mA) (⟨mA,(List.getD qA (Int.toNat pA) d_int),aC dA aA cA mA (List.getD qA (Int.toNat pA) d_int)⟩:Slot)),(List.set cA (Int.toNat mA) true)⟩:Sr)).2))),(1000000011,(.rows .bool (Sr.dn (aL bA eA BndS.n (IntKind.wrap .i64 (kA+(1:Int))) (IntKind.wrap .i64 (lA+(ba (List.getD bA (Int.toNat mA) aa) (aE bA (List.getD (List.set aA (Int.toNat mA) (⟨mA,(List.getD qA (Int.toNat pA) d_int),aC dA aA cA mA (List.getD qA (Int.toNat pA) d_int)⟩:Slot)) (Int.toNat mA) d_slot))))) (⟨fA,iA,gA,jA,(List.set aA (Int.toNat mA) (⟨mA,(List.getD qA (Int.toNat pA) d_int),aC dA aA cA mA (List.getD qA (Int.toNat pA) d_int)⟩:Slot)),(List.set cA (Int.toNat mA) true)⟩:Sr)).2)))])) (chk (inb mA (List.length (Sr.dn (aL bA eA BndS.n (IntKind.wrap .i64 (kA+(1:Int))) (IntKind.wrap .i64 (lA+(ba (List.getD bA (Int.toNat mA) aa) (aE bA (List.getD (List.set aA (Int.toNat mA) (⟨mA,(List.getD qA (Int.toNat pA) d_int),aC dA aA cA mA (List.getD qA (Int.toNat pA) d_int)⟩:Slot)) (Int.toNat mA) d_slot))))) (⟨fA,iA,gA,jA,(List.set aA (Int.toNat mA) (⟨mA,(List.getD qA (Int.toNat pA) d_int),aC dA aA cA mA (List.getD qA (Int.toNat pA) d_int)⟩:Slot)),(List.set cA (Int.toNat mA) true)⟩:Sr)).2))) (chk (nlt (Int.toNat mA) (List.length (Sr.dn (aL bA eA BndS.n (IntKind.wrap .i64 (kA+(1:Int))) (IntKind.wrap .i64 (lA+(ba (List.getD bA (Int.toNat mA) aa) (aE bA (List.getD (List.set aA (Int.toNat mA) (⟨mA,(List.getD qA (Int.toNat pA) d_int),aC dA aA cA mA (List.getD qA (Int.toNat pA) d_int)⟩:Slot)) (Int.toNat mA) d_slot))))) (⟨fA,iA,gA,jA,(List.set aA (Int.toNat mA) (⟨mA,(List.getD qA (Int.toNat pA) d_int),aC dA aA cA mA (List.getD qA (Int.toNat pA) d_int)⟩:Slot)),(List.set cA (Int.toNat mA) true)⟩:Sr)).2))&&true) (k5 kA lA mA tA sA qA aB (IntKind.wrap .i64 (pA+(1:Int))) (Sr.met (aL bA eA BndS.n (IntKind.wrap .i64 (kA+(1:Int))) (IntKind.wrap .i64 (lA+(ba (List.getD bA (Int.toNat mA) aa) (aE bA (List.getD (List.set aA (Int.toNat mA) (⟨mA,(List.getD qA (Int.toNat pA) d_int),aC dA aA cA mA (List.getD qA (Int.toNat pA) d_int)⟩:Slot)) (Int.toNat mA) d_slot))))) (⟨fA,iA,gA,jA,(List.set aA (Int.toNat mA) (⟨mA,(List.getD qA (Int.toNat pA) d_int),aC dA aA cA mA (List.getD qA (Int.toNat pA) d_int)⟩:Slot)),(List.set cA (Int.toNat mA) true)⟩:Sr)).2) eA bA (Sr.found (aL bA eA BndS.n (IntKind.wrap .i64 (kA+(1:Int))) (IntKind.wrap .i64 (lA+(ba (List.getD bA (Int.toNat mA) aa) (aE bA (List.getD (List.set aA (Int.toNat mA) (⟨mA,(List.getD qA (Int.toNat pA) d_int),aC dA aA cA mA (List.getD qA (Int.toNat pA) d_int)⟩:Slot)) (Int.toNat mA) d_slot))))) (⟨fA,iA,gA,jA,(List.set aA (Int.toNat mA) (⟨mA,(List.getD qA (Int.toNat pA) d_int),aC dA aA cA mA (List.getD qA (Int.toNat pA) d_int)⟩:Slot)),(List.set cA (Int.toNat mA) true)⟩:Sr)).2) (Sr.least (aL bA eA BndS.n (IntKind.wrap .i64 (kA+(1:Int))) (IntKind.wrap .i64 (lA+(ba (List.getD bA (Int.toNat mA) aa) (aE bA (List.getD (List.set aA (Int.toNat mA) (⟨mA,(List.getD qA (Int.toNat pA) d_int),aC dA aA cA mA (List.getD qA (Int.toNat pA) d_int)⟩:Slot)) (Int.toNat mA) d_slot))))) (⟨fA,iA,gA,jA,(List.set aA (Int.toNat mA) (⟨mA,(List.getD qA (Int.toNat pA) d_int),aC dA aA cA mA (List.getD qA (Int.toNat pA) d_int)⟩:Slot)),(List.set cA (Int.toNat mA) true)⟩:Sr)).2) (Sr.best (aL bA eA BndS.n (IntKind.wrap .i64 (kA+(1:Int))) (IntKind.wrap .i64 (lA+(ba (List.getD bA (Int.toNat mA) aa) (aE bA (List.getD (List.set aA (Int.toNat mA) (⟨mA,(List.getD qA (Int.toNat pA) d_int),aC dA aA cA mA (List.getD qA (Int.toNat pA) d_int)⟩:Slot)) (Int.toNat mA) d_slot))))) (⟨fA,iA,gA,jA,(List.set aA (Int.toNat mA) (⟨mA,(List.getD qA (Int.toNat pA) d_int),aC dA aA cA mA (List.getD qA (Int.toNat pA) d_int)⟩:Slot)),(List.set cA (Int.toNat mA) true)⟩:Sr)).2) dA (Sr.sl (aL bA eA BndS.n (IntKind.wrap .i64 (kA+(1:Int))) (IntKind.wrap .i64 (lA+(ba (List.getD bA (Int.toNat mA) aa) (aE bA (List.getD (List.set aA (Int.toNat mA) (⟨mA,(List.getD qA (Int.toNat pA) d_int),aC dA aA cA mA (List.getD qA (Int.toNat pA) d_int)⟩:Slot)) (Int.toNat mA) d_slot))))) (⟨fA,iA,gA,jA,(List.set aA (Int.toNat mA) (⟨mA,(List.getD qA (Int.toNat pA) d_int),aC dA aA cA mA (List.getD qA (Int.toNat pA) d_int)⟩:Slot)),(List.set cA (Int.toNat mA) true)⟩:Sr)).2) (List.set (Sr.dn (aL bA eA BndS.n (IntKind.wrap .i64 (kA+(1:Int))) (IntKind.wrap .i64 (lA+(ba (List.getD bA (Int.toNat mA) aa) (aE bA (List.getD (List.set aA (Int.toNat mA) (⟨mA,(List.getD qA (Int.toNat pA) d_int),aC dA aA cA mA (List.getD qA (Int.toNat pA) d_int)⟩:Slot)) (Int.toNat mA) d_slot))))) (⟨fA,iA,gA,jA,(List.set aA (Int.toNat mA) (⟨mA,(List.getD qA (Int.toNat pA) d_int),aC dA aA cA mA (List.getD qA (Int.toNat pA) d_int)⟩:Slot)),(List.set cA (Int.toNat mA) true)⟩:Sr)).2) (Int.toNat mA) false)))))))))))) (k4 kA lA tA sA fA eA bA gA iA jA dA aA cA)
noncomputable def it3 (Kb2:ae U El) (n:Nat):ae U El:=bL nm3 (fun st' K'=>ak X (cdp [1,1,1,0,1,0,0] bd) (.seq none .d (.seq none .d (.seq (some nm4) (.block (.seq none .d (.seq none .d (.seq none .d (.block (.loop nm5 (.seq none .d (.seq none .d (.seq none (.block (.seq none .d (.seq none .d (.seq none (.seq none (.region [(19,1000000000),(19,1000000001),(19,1000000002),(19,1000000003),(19,1000000004),(19,1000000005),(19,1000000006),(19,1000000007),(19,1000000008),(19,1000000009),(19,1000000010),(19,1000000011)]) .d) .d)))) .d))))))))) .d))) st' K' (aw 0 (ap nm2 Kb2) (fun _ _=>none)) RR) n
noncomputable def it5 (Kb2 Kb4:ae U El) (n:Nat):ae U El:=bL nm5 (fun st' K'=>ak X (cdp [1,1,1,0,1,0,0,1,1,0,0,1,1,1,0,0] bd) (.seq none .d (.seq none .d (.seq none (.block (.seq none .d (.seq none .d (.seq none (.seq none (.region [(19,1000000000),(19,1000000001),(19,1000000002),(19,1000000003),(19,1000000004),(19,1000000005),(19,1000000006),(19,1000000007),(19,1000000008),(19,1000000009),(19,1000000010),(19,1000000011)]) .d) .d)))) .d))) st' K' (aw 2 (ap nm4 Kb4) (aw 1 (ap nm4 Kb4) (aw 0 (ap nm2 Kb2) (fun _ _=>none)))) RR) n
noncomputable def ct1:ae U El:=fun st=>ak X (cdp [1,1,1] bd) (.seq (some nm2) (.seq none .d (.block (.loop nm3 (.seq none .d (.seq none .d (.seq (some nm4) (.block (.seq none .d (.seq none .d (.seq none .d (.block (.loop nm5 (.seq none .d (.seq none .d (.seq none (.block (.seq none .d (.seq none .d (.seq none (.seq none (.region [(19,1000000000),(19,1000000001),(19,1000000002),(19,1000000003),(19,1000000004),(19,1000000005),(19,1000000006),(19,1000000007),(19,1000000008),(19,1000000009),(19,1000000010),(19,1000000011)]) .d) .d)))) .d))))))))) .d)))))) .d) st RR (fun _ _=>none) RR
noncomputable def ct2:ae U El:=fun st=>ak X (cdp [1,1,1,1] bd) .d st RR (fun _ _=>none) RR
noncomputable def ct4 (Kb2 Kb3:ae U El):ae U El:=fun st=>ak X (cdp [1,1,1,0,1,0,0,1,1,1] bd) .d st (ap nm3 Kb3) (aw 0 (ap nm2 Kb2) (fun _ _=>none)) RR
theorem P0 (done sum met most l found least lw bs sl dn):ak X (cdp [] bd) (.seq none .d (.seq none .d (.seq (some nm1) .d (.seq (some nm2) (.seq none .d (.block (.loop nm3 (.seq none .d (.seq none .d (.seq (some nm4) (.block (.seq none .d (.seq none .d (.seq none .d (.block (.loop nm5 (.seq none .d (.seq none .d (.seq none (.block (.seq none .d (.seq none .d (.seq none (.seq none (.region [(19,1000000000),(19,1000000001),(19,1000000002),(19,1000000003),(19,1000000004),(19,1000000005),(19,1000000006),(19,1000000007),(19,1000000008),(19,1000000009),(19,1000000010),(19,1000000011)]) .d) .d)))) .d))))))))) .d)))))) .d)))) (fr0 done sum met most l found least lw bs sl dn) RR (fun _ _=>none) RR=sh0 done sum met most l found least lw bs sl dn (fun y0 y1 y2 y3 y4 y5 y6 y7 y8 y9 y10=>(hid ct1) (fr1 y0 y1 y2 y3 y4 y5 y6 y7 y8 y9 y10)):=by kernel_rfl
theorem P1 (kA lA fA eA bA gA iA jA dA aA cA):ct1 (fr1 kA lA fA eA bA gA iA jA dA aA cA)=sh1 kA lA fA eA bA gA iA jA dA aA cA (fun y0 y1 y2 y3 y4 y5 y6 y7 y8 y9 y10 y11 y12=>(hid (it3 (hid ct2) 100000)) (fr3 y0 y1 y2 y3 y4 y5 y6 y7 y8 y9 y10 y11 y12)):=by kernel_rfl
theorem P2 (fA eA bA gA iA jA dA aA cA):ct2 (fr2 fA eA bA gA iA jA dA aA cA)=sh2 fA eA bA gA iA jA dA aA cA:=by kernel_rfl
theorem P3 (kA lA tA sA fA eA bA gA iA jA dA aA cA) (Kb2 Kb3:ae U El):ak X (cdp [1,1,1,0,1,0,0] bd) (.seq none .d (.seq none .d (.seq (some nm4) (.block (.seq none .d (.seq none .d (.seq none .d (.block (.loop nm5 (.seq none .d (.seq none .d (.seq none (.block (.seq none .d (.seq none .d (.seq none (.seq none (.region [(19,1000000000),(19,1000000001),(19,1000000002),(19,1000000003),(19,1000000004),(19,1000000005),(19,1000000006),(19,1000000007),(19,1000000008),(19,1000000009),(19,1000000010),(19,1000000011)]) .d) .d)))) .d))))))))) .d))) (fr3 kA lA tA sA fA eA bA gA iA jA dA aA cA) (ap nm3 Kb3) (aw 0 (ap nm2 Kb2) (fun _ _=>none)) RR=sh3 kA lA tA sA fA eA bA gA iA jA dA aA cA (fun y0 y1 y2 y3 y4 y5 y6 y7 y8=>Kb2 (fr2 y0 y1 y2 y3 y4 y5 y6 y7 y8)) (fun y0 y1 y2 y3 y4 y5 y6 y7 y8 y9 y10 y11 y12=>(hid (ct4 Kb2 Kb3)) (fr4 y0 y1 y2 y3 y4 y5 y6 y7 y8 y9 y10 y11 y12)) (fun y0 y1 y2 y3 y4 y5 y6 y7 y8 y9 y10 y11 y12 y13 y14 y15 y16=>(hid (it5 Kb2 (hid (ct4 Kb2 Kb3)) 100000)) (fr5 y0 y1 y2 y3 y4 y5 y6 y7 y8 y9 y10 y11 y12 y13 y14 y15 y16)):=by kernel_rfl
theorem P4 (kA lA tA sA fA eA bA gA iA jA dA aA cA) (Kb2 Kb3:ae U El):ct4 Kb2 Kb3 (fr4 kA lA tA sA fA eA bA gA iA jA dA aA cA)=sh4 kA lA tA sA fA eA bA gA iA jA dA aA cA (fun y0 y1 y2 y3 y4 y5 y6 y7 y8 y9 y10 y11 y12=>Kb3 (fr3 y0 y1 y2 y3 y4 y5 y6 y7 y8 y9 y10 y11 y12)):=by kernel_rfl
theorem P5 (kA lA mA tA sA qA aB pA fA eA bA gA iA jA dA aA cA) (Kb2 Kb4 Kb5:ae U El):ak X (cdp [1,1,1,0,1,0,0,1,1,0,0,1,1,1,0,0] bd) (.seq none .d (.seq none .d (.seq none (.block (.seq none .d (.seq none .d (.seq none (.seq none (.region [(19,1000000000),(19,1000000001),(19,1000000002),(19,1000000003),(19,1000000004),(19,1000000005),(19,1000000006),(19,1000000007),(19,1000000008),(19,1000000009),(19,1000000010),(19,1000000011)]) .d) .d)))) .d))) (fr5 kA lA mA tA sA qA aB pA fA eA bA gA iA jA dA aA cA) (ap nm5 Kb5) (aw 2 (ap nm4 Kb4) (aw 1 (ap nm4 Kb4) (aw 0 (ap nm2 Kb2) (fun _ _=>none)))) RR=sh5 kA lA mA tA sA qA aB pA fA eA bA gA iA jA dA aA cA (fun y0 y1 y2 y3 y4 y5 y6 y7 y8 y9 y10 y11 y12=>Kb4 (fr4 y0 y1 y2 y3 y4 y5 y6 y7 y8 y9 y10 y11 y12)) (fun y0 y1 y2 y3 y4 y5 y6 y7 y8 y9 y10 y11 y12 y13 y14 y15 y16=>Kb5 (fr5 y0 y1 y2 y3 y4 y5 y6 y7 y8 y9 y10 y11 y12 y13 y14 y15 y16)):=by kernel_rfl
noncomputable def f2 (fA:Int) (eA:Int) (bA:List Work) (gA:Bool) (iA:Int) (jA:List Slot) (dA:List Work) (aA:List Slot) (cA:List Bool):R:=sh2 fA eA bA gA iA jA dA aA cA
noncomputable def f4 (k3:Y3) (kA:Int) (lA:Int) (tA:Int) (sA:Int) (fA:Int) (eA:Int) (bA:List Work) (gA:Bool) (iA:Int) (jA:List Slot) (dA:List Work) (aA:List Slot) (cA:List Bool):R:=sh4 kA lA tA sA fA eA bA gA iA jA dA aA cA k3
noncomputable def f5 (k3:Y3):Nat→Y5
  | 0=>fun _ _ _ _ _ _ _ _ _ _ _ _ _ _ _ _ _=>none
  | n+1=>fun kA lA mA tA sA qA aB pA fA eA bA gA iA jA dA aA cA=>sh5 kA lA mA tA sA qA aB pA fA eA bA gA iA jA dA aA cA (f4 k3) (f5 k3 n)
noncomputable def f3:Nat→Y3
  | 0=>fun _ _ _ _ _ _ _ _ _ _ _ _ _=>none
  | n+1=>fun kA lA tA sA fA eA bA gA iA jA dA aA cA=>sh3 kA lA tA sA fA eA bA gA iA jA dA aA cA f2 (f4 (f3 n)) (f5 (f3 n) 100000)
noncomputable def f1 (kA:Int) (lA:Int) (fA:Int) (eA:Int) (bA:List Work) (gA:Bool) (iA:Int) (jA:List Slot) (dA:List Work) (aA:List Slot) (cA:List Bool):R:=sh1 kA lA fA eA bA gA iA jA dA aA cA (f3 100000)
noncomputable def f0 (done:Int) (sum:Int) (met:Int) (most:Int) (l:List Work) (found:Bool) (least:Int) (lw:List Work) (bs:List Slot) (sl:List Slot) (dn:List Bool):R:=sh0 done sum met most l found least lw bs sl dn f1
theorem T2 (fA eA bA gA iA jA dA aA cA):(hid ct2) (fr2 fA eA bA gA iA jA dA aA cA)=f2 fA eA bA gA iA jA dA aA cA:=by
  refine (congrFun (am _) _).trans <| (P2 fA eA bA gA iA jA dA aA cA).trans ?_
  show _=sh2 fA eA bA gA iA jA dA aA cA
  rfl
theorem T4 (KL3:ae U El) (k3:Y3) (h3:∀ kA lA tA sA fA eA bA gA iA jA dA aA cA,KL3 (fr3 kA lA tA sA fA eA bA gA iA jA dA aA cA)=k3 kA lA tA sA fA eA bA gA iA jA dA aA cA) (kA lA tA sA fA eA bA gA iA jA dA aA cA):(hid (ct4 (hid ct2) KL3)) (fr4 kA lA tA sA fA eA bA gA iA jA dA aA cA)=f4 k3 kA lA tA sA fA eA bA gA iA jA dA aA cA:=by
  refine (congrFun (am _) _).trans <| (P4 kA lA tA sA fA eA bA gA iA jA dA aA cA (hid ct2) KL3).trans ?_
  show _=sh4 kA lA tA sA fA eA bA gA iA jA dA aA cA k3
  simp only [h3]
theorem T5 (KL3:ae U El) (k3:Y3) (h3:∀ kA lA tA sA fA eA bA gA iA jA dA aA cA,KL3 (fr3 kA lA tA sA fA eA bA gA iA jA dA aA cA)=k3 kA lA tA sA fA eA bA gA iA jA dA aA cA):∀ (n:Nat),∀ kA lA mA tA sA qA aB pA fA eA bA gA iA jA dA aA cA,it5 (hid ct2) (hid (ct4 (hid ct2) KL3)) n (fr5 kA lA mA tA sA qA aB pA fA eA bA gA iA jA dA aA cA)=f5 k3 n kA lA mA tA sA qA aB pA fA eA bA gA iA jA dA aA cA:=by
  intro n
  induction n with
  | zero=>intros; rfl
  | succ n ih =>
    intro kA lA mA tA sA qA aB pA fA eA bA gA iA jA dA aA cA
    refine (P5 kA lA mA tA sA qA aB pA fA eA bA gA iA jA dA aA cA (hid ct2) (hid (ct4 (hid ct2) KL3)) (it5 (hid ct2) (hid (ct4 (hid ct2) KL3)) n)).trans ?_
    show _=sh5 kA lA mA tA sA qA aB pA fA eA bA gA iA jA dA aA cA (f4 k3) (f5 k3 n)
    simp only [T4 KL3 k3 h3,ih]
theorem H5 (KL3:ae U El) (k3:Y3) (h3:∀ kA lA tA sA fA eA bA gA iA jA dA aA cA,KL3 (fr3 kA lA tA sA fA eA bA gA iA jA dA aA cA)=k3 kA lA tA sA fA eA bA gA iA jA dA aA cA) (kA lA mA tA sA qA aB pA fA eA bA gA iA jA dA aA cA):hid (it5 (hid ct2) (hid (ct4 (hid ct2) KL3)) 100000) (fr5 kA lA mA tA sA qA aB pA fA eA bA gA iA jA dA aA cA)=f5 k3 100000 kA lA mA tA sA qA aB pA fA eA bA gA iA jA dA aA cA:=(congrFun (am _) _).trans (T5 KL3 k3 h3 100000 kA lA mA tA sA qA aB pA fA eA bA gA iA jA dA aA cA)
theorem T3:∀ (n:Nat),∀ kA lA tA sA fA eA bA gA iA jA dA aA cA,it3 (hid ct2) n (fr3 kA lA tA sA fA eA bA gA iA jA dA aA cA)=f3 n kA lA tA sA fA eA bA gA iA jA dA aA cA:=by
  intro n
  induction n with
  | zero=>intros; rfl
  | succ n ih =>
    intro kA lA tA sA fA eA bA gA iA jA dA aA cA
    refine (P3 kA lA tA sA fA eA bA gA iA jA dA aA cA (hid ct2) (it3 (hid ct2) n)).trans ?_
    show _=sh3 kA lA tA sA fA eA bA gA iA jA dA aA cA f2 (f4 (f3 n)) (f5 (f3 n) 100000)
    simp only [T2,T4 (it3 (hid ct2) n) (f3 n) ih,H5 (it3 (hid ct2) n) (f3 n) ih]
theorem H3 (kA lA tA sA fA eA bA gA iA jA dA aA cA):hid (it3 (hid ct2) 100000) (fr3 kA lA tA sA fA eA bA gA iA jA dA aA cA)=f3 100000 kA lA tA sA fA eA bA gA iA jA dA aA cA:=(congrFun (am _) _).trans (T3 100000 kA lA tA sA fA eA bA gA iA jA dA aA cA)
theorem T1 (kA lA fA eA bA gA iA jA dA aA cA):(hid ct1) (fr1 kA lA fA eA bA gA iA jA dA aA cA)=f1 kA lA fA eA bA gA iA jA dA aA cA:=by
  refine (congrFun (am _) _).trans <| (P1 kA lA fA eA bA gA iA jA dA aA cA).trans ?_
  show _=sh1 kA lA fA eA bA gA iA jA dA aA cA (f3 100000)
  simp only [H3]
theorem T0 (done sum met most l found least lw bs sl dn):ak X bd (.seq none .d (.seq none .d (.seq (some nm1) .d (.seq (some nm2) (.seq none .d (.block (.loop nm3 (.seq none .d (.seq none .d (.seq (some nm4) (.block (.seq none .d (.seq none .d (.seq none .d (.block (.loop nm5 (.seq none .d (.seq none .d (.seq none (.block (.seq none .d (.seq none .d (.seq none (.seq none (.region [(19,1000000000),(19,1000000001),(19,1000000002),(19,1000000003),(19,1000000004),(19,1000000005),(19,1000000006),(19,1000000007),(19,1000000008),(19,1000000009),(19,1000000010),(19,1000000011)]) .d) .d)))) .d))))))))) .d)))))) .d)))) (fr0 done sum met most l found least lw bs sl dn) RR (fun _ _=>none) RR=f0 done sum met most l found least lw bs sl dn:=by
  refine (P0 done sum met most l found least lw bs sl dn).trans ?_
  show _=sh0 done sum met most l found least lw bs sl dn f1
  simp only [T1]
theorem run (done sum met most l found least lw bs sl dn):jy X bd (.seq none .d (.seq none .d (.seq (some nm1) .d (.seq (some nm2) (.seq none .d (.block (.loop nm3 (.seq none .d (.seq none .d (.seq (some nm4) (.block (.seq none .d (.seq none .d (.seq none .d (.block (.loop nm5 (.seq none .d (.seq none .d (.seq none (.block (.seq none .d (.seq none .d (.seq none (.seq none (.region [(19,1000000000),(19,1000000001),(19,1000000002),(19,1000000003),(19,1000000004),(19,1000000005),(19,1000000006),(19,1000000007),(19,1000000008),(19,1000000009),(19,1000000010),(19,1000000011)]) .d) .d)))) .d))))))))) .d)))))) .d)))) nmR [12] [(1000000000,(.box 1000000000 [(.int .i64 met)])),(1000000001,(.box 1000000001 [(.int .i64 most)])),(1000000002,(.box 1000000002 [(.lst .work l)])),(1000000003,(.box 1000000003 [(.bool found)])),(1000000004,(.box 1000000004 [(.int .i64 least)])),(1000000005,(.box 1000000005 [(.ptr 1000000008 0)])),(1000000006,(.box 1000000006 [(.ful 1000000009)])),(1000000007,(.box 1000000007 [(.fn 43 [] [(.ptr 1000000000 0),(.ptr 1000000001 0),(.ptr 1000000002 0),(.ptr 1000000003 0),(.ptr 1000000004 0),(.ptr 1000000005 0),(.ptr 1000000006 0),(.ptr 1000000007 0)])])),(1000000008,(.box 1000000008 [(.lst .work lw),(.ful 1000000010),(.ful 1000000011)])),(1000000009,(.rows .slot bs)),(1000000010,(.rows .slot sl)),(1000000011,(.rows .bool dn))] [(.int .i64 done),(.int .i64 sum),(.ptr 1000000000 0),(.ptr 1000000001 0),(.ptr 1000000002 0),(.ptr 1000000003 0),(.ptr 1000000004 0),(.ptr 1000000005 0),(.ptr 1000000006 0),(.ptr 1000000007 0)]=f0 done sum met most l found least lw bs sl dn:=T0 done sum met most l found least lw bs sl dn
theorem crewLoop (l : List Work) (most : Int) (hv : okV l = true) (hval : aQ l 12 = true) (k3 : Y3) (d : Nat) (sum : Int) (q : Nat) (hq : q < l.length) (dn : List Bool) (hr : bx l dn (q : Int) = true) (hd : d + bh dn = l.length) (hc : bh dn < BndS.n + 1) (x : Int) (wc : List Int) (hwc : wc.length ≤ 90000) : ∀ (n j : Nat) (s : Sr), wc.length < n + j → j ≤ wc.length → s.dn = dn → GS l s.sl dn →
    f5 k3 n (d:Int) sum (q:Int) x (q:Int) wc (Int.ofNat wc.length) (j:Int) s.met most l s.found s.least s.best l s.sl s.dn=bif (bn (fun sum' s'=>aL l most BndS.n (IntKind.wrap .i64 ((d:Int)+1)) sum' s') l sum (q:Int) (wc.drop j) s).1 then
      f4 k3 (d:Int) sum x (q:Int) (bn (fun sum' s'=>aL l most BndS.n (IntKind.wrap .i64 ((d:Int)+1)) sum' s') l sum (q:Int) (wc.drop j) s).2.met most l (bn (fun sum' s'=>aL l most BndS.n (IntKind.wrap .i64 ((d:Int)+1)) sum' s') l sum (q:Int) (wc.drop j) s).2.found (bn (fun sum' s'=>aL l most BndS.n (IntKind.wrap .i64 ((d:Int)+1)) sum' s') l sum (q:Int) (wc.drop j) s).2.least (bn (fun sum' s'=>aL l most BndS.n (IntKind.wrap .i64 ((d:Int)+1)) sum' s') l sum (q:Int) (wc.drop j) s).2.best l (bn (fun sum' s'=>aL l most BndS.n (IntKind.wrap .i64 ((d:Int)+1)) sum' s') l sum (q:Int) (wc.drop j) s).2.sl (bn (fun sum' s'=>aL l most BndS.n (IntKind.wrap .i64 ((d:Int)+1)) sum' s') l sum (q:Int) (wc.drop j) s).2.dn
      else mB (bn (fun sum' s'=>aL l most BndS.n (IntKind.wrap .i64 ((d:Int)+1)) sum' s') l sum (q:Int) (wc.drop j) s) most l l:=by
  have hl:=(aR hval).len
  intro n
  induction n with
  | zero=>intro j s h1 h2; omega
  | succ n ih =>
    intro j s h1 h2 hdn hg
    show sh5 (d:Int) sum (q:Int) x (q:Int) wc (Int.ofNat wc.length) (j:Int) s.met most l s.found s.least s.best l s.sl s.dn (f4 k3) (f5 k3 n)=_
    unfold sh5
    by_cases hj:j < wc.length
    · have hS : SS l s.sl s.dn q := mq hv hval (by rw [hdn]; exact hg) hq (by rw [hdn]; exact hr)
      have hqs:q < s.sl.length:=by rw [hg.len]; exact hq
      have hqd:q < dn.length:=by rw [hg.good.1]; exact hq
      obtain ⟨g1,g2⟩:=gK hg hq hr wc[j] (aC l s.sl s.dn (q:Int) wc[j])
      have af:List.getD (List.set s.sl q ⟨(q:Int),wc[j],aC l s.sl s.dn (q:Int) wc[j]⟩) q d_slot=⟨(q:Int),wc[j],aC l s.sl s.dn (q:Int) wc[j]⟩:=by rw [aX _ _ _ _ hqs,if_pos rfl]
      have hsw:inb (Slot.sw (List.getD (List.set s.sl q ⟨(q:Int),wc[j],aC l s.sl s.dn (q:Int) wc[j]⟩) q d_slot)) l.length=true:=by rw [af]; exact aZ hq
      have hP:srP l l BndS.n (IntKind.wrap .i64 ((d:Int)+1)) (List.set s.sl q ⟨(q:Int),wc[j],aC l s.sl s.dn (q:Int) wc[j]⟩) (List.set s.dn q true)=true:=by
        rw [bo d (by omega),hdn]
        refine srP_iff.2 ⟨rfl,hv,hval,?_,d+1,rfl,by omega,by omega⟩
        rw [hdn] at g1
        exact g1
      rw [bw (by simp; omega),aZ hj,ac,ac,al hj,sJ hS,aZ hq,List.length_set,aZ hqs,eb hqs,hsw,hP,bl hj]
      simp only [bn]
      have hkeep:=jR (most:=most) BndS.n (IntKind.wrap .i64 ((d:Int)+1)) (IntKind.wrap .i64 (sum+ba (List.getD l q aa) (aE l (List.getD (List.set s.sl q ⟨(q:Int),wc[j],aC l s.sl s.dn (q:Int) wc[j]⟩) q d_slot)))) (bk l s (q:Int) wc[j]) (by show GS l (List.set s.sl q _) (List.set s.dn q true); rw [hdn] at g1 ⊢; exact g1) (by show bh (List.set s.dn q true) < _; rw [hdn]; omega)
      have e1:(aL l most BndS.n (IntKind.wrap .i64 ((d:Int)+1)) (IntKind.wrap .i64 (sum+ba (List.getD l q aa) (aE l (List.getD (List.set s.sl q ⟨(q:Int),wc[j],aC l s.sl s.dn (q:Int) wc[j]⟩) q d_slot)))) (⟨s.met,s.least,s.found,s.best,List.set s.sl q ⟨(q:Int),wc[j],aC l s.sl s.dn (q:Int) wc[j]⟩,List.set s.dn q true⟩:Sr))=aL l most BndS.n (IntKind.wrap .i64 ((d:Int)+1)) (IntKind.wrap .i64 (sum+ba (List.getD l q aa) (aE l (List.getD (List.set s.sl q ⟨(q:Int),wc[j],aC l s.sl s.dn (q:Int) wc[j]⟩) q d_slot)))) (bk l s (q:Int) wc[j]):=rfl
      have e2:aL l most BndS.n (IntKind.wrap .i64 ((d:Int)+1)) (IntKind.wrap .i64 (sum+ba (List.getD l (Int.toNat (q:Int)) aa) (aE l (List.getD (bk l s (q:Int) wc[j]).sl (Int.toNat (q:Int)) d_slot)))) (bk l s (q:Int) wc[j])=aL l most BndS.n (IntKind.wrap .i64 ((d:Int)+1)) (IntKind.wrap .i64 (sum+ba (List.getD l q aa) (aE l (List.getD (List.set s.sl q ⟨(q:Int),wc[j],aC l s.sl s.dn (q:Int) wc[j]⟩) q d_slot)))) (bk l s (q:Int) wc[j]):=rfl
      rw [e1,e2]
      have hdn1:(bk l s (q:Int) wc[j]).dn=dn.set q true:=by show List.set s.dn q true=_; rw [hdn]
      rw [hdn1] at hkeep
      generalize aL l most BndS.n (IntKind.wrap .i64 ((d:Int)+1)) (IntKind.wrap .i64 (sum+ba (List.getD l q aa) (aE l (List.getD (List.set s.sl q ⟨(q:Int),wc[j],aC l s.sl s.dn (q:Int) wc[j]⟩) q d_slot)))) (bk l s (q:Int) wc[j])=r at hkeep ⊢
      cases hb:r.1 with
      | false=>rfl
      | true =>
        obtain ⟨k1,k2⟩:=hkeep hb
        have hback:(ee r.2 (q:Int)).dn=dn:=by
          show List.set r.2.dn q false=dn
          rw [k1]
          exact jQ hqd (cT hr).1
        have hih:=ih (j+1) (ee r.2 (q:Int)) (by omega) hj hback ⟨k2.len,k2.sw,hg.good⟩
        rw [bo j (by omega),show inb (q:Int) r.2.dn.length=true by rw [k1,List.length_set]; exact aZ hqd,eb (show q < r.2.dn.length by rw [k1,List.length_set]; exact hqd)]
        exact hih
    · have : j = wc.length := by omega
      subst this
      rw [bp (by simp),List.drop_length,bV]
      rfl
theorem workLoop (l : List Work) (most : Int) (hv : okV l = true) (hval : aQ l 12 = true) (d : Nat) (sum : Int) (dn : List Bool) (hd : d + bh dn = l.length) (hc : bh dn < BndS.n + 1) : ∀ (n k : Nat) (s : Sr), l.length < n + k → k ≤ l.length → s.dn = dn → GS l s.sl dn →
    f3 n (d:Int) sum (Int.ofNat l.length) (k:Int) s.met most l s.found s.least s.best l s.sl s.dn=mB (cd (fun sum' s'=>aL l most BndS.n (IntKind.wrap .i64 ((d:Int)+1)) sum' s') l sum (l.length - k) k s) most l l:=by
  have hV:=aR hval
  have hl:=hV.len
  have hO:=bX hv hV.good
  intro n
  induction n with
  | zero=>intro k s h1 h2; omega
  | succ n ih =>
    intro k s h1 h2 hdn hg
    show sh3 (d:Int) sum (Int.ofNat l.length) (k:Int) s.met most l s.found s.least s.best l s.sl s.dn f2 (f4 (f3 n)) (f5 (f3 n) 100000)=_
    unfold sh3
    by_cases hk:k < l.length
    · have hR : okR l s.dn (k : Int) = true := by
        simp only [okR,Bool.and_eq_true]
        exact ⟨aZ hk,by rw [hdn,hg.good.1]; exact Nat.beq_refl _,hO⟩
      have e4:∀ (s:Sr),s.dn=dn→GS l s.sl dn→f4 (f3 n) (d:Int) sum (Int.ofNat l.length) (k:Int) s.met most l s.found s.least s.best l s.sl s.dn=mB (cd (fun sum' s'=>aL l most BndS.n (IntKind.wrap .i64 ((d:Int)+1)) sum' s') l sum (l.length - (k+1)) (k+1) s) most l l:=fun s h3 h4=>by
        show f3 n (d:Int) sum (Int.ofNat l.length) (IntKind.wrap .i64 ((k:Int)+1)) s.met most l s.found s.least s.best l s.sl s.dn=_
        rw [bo k (by omega)]
        exact ih (k+1) s (by omega) hk h3 h4
      rw [bw (by simp; omega),hR,aZ hk,ac,show l.length - k=(l.length - (k+1))+1 by omega]
      simp only [cd]
      cases hr:bx l s.dn (k:Int) with
      | false=>exact e4 s hdn hg
      | true =>
        have hr':bx l dn (k:Int)=true:=by rw [← hdn]; exact hr
        have hwc9:=((cq hv).2 _ (List.getElem_mem hk)).2
        rw [cond_true]
        show f5 (f3 n) 100000 (d:Int) sum (k:Int) (Int.ofNat l.length) (k:Int) (List.getD l k aa).wc (Int.ofNat (List.getD l k aa).wc.length) ((0:Nat):Int) s.met most l s.found s.least s.best l s.sl s.dn=_
        rw [crewLoop l most hv hval (f3 n) d sum k hk dn hr' hd hc (Int.ofNat l.length) (List.getD l k aa).wc (by rw [al hk]; exact hwc9) 100000 0 s (by rw [al hk]; omega) (by omega) hdn hg,List.drop_zero]
        have hkeep:=iw (sum:=sum) hk hr' (fun sum' s' hd' hg'=>by
          have h7:=jR (most:=most) BndS.n (IntKind.wrap .i64 ((d:Int)+1)) sum' s' hg' (by
            rw [hd']
            have:=dR dn k (by rw [hg.good.1]; exact hk) (cT hr').1
            omega)
          rw [hd'] at h7
          exact h7) (List.getD l k aa).wc s hdn hg
        generalize bn (fun sum' s'=>aL l most BndS.n (IntKind.wrap .i64 ((d:Int)+1)) sum' s') l sum (k:Int) (List.getD l k aa).wc s=r at hkeep ⊢
        cases hb:r.1 with
        | false =>
          rw [cond_false,cond_false]
          have:r=(false,r.2):=by rw [← hb]
          rw [this]
        | true =>
          obtain ⟨k1,k2⟩:=hkeep hb
          rw [cond_true,cond_true]
          exact e4 r.2 k1 k2
    · have : k = l.length := by omega
      subst this
      rw [bp (by simp),Nat.sub_self,bV]
      rfl
theorem f0_eq (done sum met most : Int) (l : List Work) (found : Bool) (least : Int) (lw : List Work) (bs sl : List Slot) (dn : List Bool) (h : srP l lw (Nat.succ BndS.n) done sl dn = true) : f0 done sum met most l found least lw bs sl dn = mB (aL l most (Nat.succ BndS.n) done sum ⟨met, least, found, bs, sl, dn⟩) most l lw := by
  obtain ⟨rfl,hv,hval,hg,d,rfl,hd,hc⟩:=srP_iff.1 h
  rw [Nat.succ_eq_add_one] at *
  have hl:=(aR hval).len
  show sh0 (d:Int) sum met most lw found least lw bs sl dn f1=_
  unfold sh0
  simp only [aL]
  cases ilt most (IntKind.wrap .i64 (met+1)) with
  | true=>rfl
  | false =>
    rw [bV,cond_false]
    have e1:∀ (s:Sr),s.dn=dn→GS lw s.sl dn→f1 (d:Int) sum s.met most lw s.found s.least s.best lw s.sl s.dn=mB (cd (fun sum' s'=>aL lw most BndS.n (IntKind.wrap .i64 ((d:Int)+1)) sum' s') lw sum lw.length 0 s) most lw lw:=fun s h1 h2=>by
      show f3 100000 (d:Int) sum (Int.ofNat lw.length) ((0:Nat):Int) s.met most lw s.found s.least s.best lw s.sl s.dn=_
      rw [workLoop lw most hv hval d sum dn hd hc 100000 0 s (by omega) (by omega) h1 h2,Nat.sub_zero]
    unfold di
    rw [bC (show sl.length≤90000 by rw [hg.len]; omega)]
    have a1:=e1 ⟨IntKind.wrap .i64 (met+1),sum,true,sl,sl,dn⟩ rfl hg
    have a2:=e1 ⟨IntKind.wrap .i64 (met+1),least,found,bs,sl,dn⟩ rfl hg
    cases ((d:Int) == Int.ofNat lw.length)
    · exact a2
    · cases found
      · exact a1
      · cases ilt sum least
        · exact a2
        · exact a1
theorem ok:CtxOk Try.prog X:=aU tab (spC cloneS.spOk (spC ready.spOk (spC late.spOk (spC endc.spOk spN)))) (dpC ⟨searchR.spOk,searchR.spDet⟩ dpN)
theorem okM:MOk Try.prog X:=bF _ (mpC (cF ok place.spOk) mpN)
theorem spec (done:Int) (sum:Int) (met:Int) (most:Int) (l:List Work) (found:Bool) (least:Int) (lw:List Work) (bs:List Slot) (sl:List Slot) (dn:List Bool) (h:(srP l lw (Nat.succ BndS.n) done sl dn)=true):MCall Try.prog E 43 [(.int .i64 done),(.int .i64 sum),(.ptr 1000000000 0),(.ptr 1000000001 0),(.ptr 1000000002 0),(.ptr 1000000003 0),(.ptr 1000000004 0),(.ptr 1000000005 0),(.ptr 1000000006 0),(.ptr 1000000007 0)] [(1000000000,(.box 1000000000 [(.int .i64 met)])),(1000000001,(.box 1000000001 [(.int .i64 most)])),(1000000002,(.box 1000000002 [(.lst .work l)])),(1000000003,(.box 1000000003 [(.bool found)])),(1000000004,(.box 1000000004 [(.int .i64 least)])),(1000000005,(.box 1000000005 [(.ptr 1000000008 0)])),(1000000006,(.box 1000000006 [(.ful 1000000009)])),(1000000007,(.box 1000000007 [(.fn 43 [] [(.ptr 1000000000 0),(.ptr 1000000001 0),(.ptr 1000000002 0),(.ptr 1000000003 0),(.ptr 1000000004 0),(.ptr 1000000005 0),(.ptr 1000000006 0),(.ptr 1000000007 0)])])),(1000000008,(.box 1000000008 [(.lst .work lw),(.ful 1000000010),(.ful 1000000011)])),(1000000009,(.rows .slot bs)),(1000000010,(.rows .slot sl)),(1000000011,(.rows .bool dn))] (.bool ((aL l most (Nat.succ BndS.n) done sum (⟨met,least,found,bs,sl,dn⟩:Sr)).1)) [(1000000000,(.box 1000000000 [(.int .i64 (Sr.met (aL l most (Nat.succ BndS.n) done sum (⟨met,least,found,bs,sl,dn⟩:Sr)).2))])),(1000000001,(.box 1000000001 [(.int .i64 most)])),(1000000002,(.box 1000000002 [(.lst .work l)])),(1000000003,(.box 1000000003 [(.bool (Sr.found (aL l most (Nat.succ BndS.n) done sum (⟨met,least,found,bs,sl,dn⟩:Sr)).2))])),(1000000004,(.box 1000000004 [(.int .i64 (Sr.least (aL l most (Nat.succ BndS.n) done sum (⟨met,least,found,bs,sl,dn⟩:Sr)).2))])),(1000000005,(.box 1000000005 [(.ptr 1000000008 0)])),(1000000006,(.box 1000000006 [(.ful 1000000009)])),(1000000007,(.box 1000000007 [(.fn 43 [] [(.ptr 1000000000 0),(.ptr 1000000001 0),(.ptr 1000000002 0),(.ptr 1000000003 0),(.ptr 1000000004 0),(.ptr 1000000005 0),(.ptr 1000000006 0),(.ptr 1000000007 0)])])),(1000000008,(.box 1000000008 [(.lst .work lw),(.ful 1000000010),(.ful 1000000011)])),(1000000009,(.rows .slot (Sr.best (aL l most (Nat.succ BndS.n) done sum (⟨met,least,found,bs,sl,dn⟩:Sr)).2))),(1000000010,(.rows .slot (Sr.sl (aL l most (Nat.succ BndS.n) done sum (⟨met,least,found,bs,sl,dn⟩:Sr)).2))),(1000000011,(.rows .bool (Sr.dn (aL l most (Nat.succ BndS.n) done sum (⟨met,least,found,bs,sl,dn⟩:Sr)).2)))] :=
  bG ok okM Try.func43 (by kernel_rfl) (by kernel_rfl) (by kernel_rfl) (by show 10≤92; decide) ((run done sum met most l found least lw bs sl dn).trans (f0_eq done sum met most l found least lw bs sl dn h))
noncomputable def sp:MSp U El:=fun args hs k=>match args,hs with
  | [.int .i64 done,.int .i64 sum,.ptr q0 0,.ptr q1 0,.ptr q2 0,.ptr q3 0,.ptr q4 0,.ptr q5 0,.ptr q6 0,.ptr q7 0],[(q8,.box q9 [.int .i64 met]),(q10,.box q11 [.int .i64 most]),(q12,.box q13 [.lst .work l]),(q14,.box q15 [.bool found]),(q16,.box q17 [.int .i64 least]),(q18,.box q19 [.ptr q20 0]),(q21,.box q22 [.ful q23]),(q24,.box q25 [.fn 43 [] [.ptr q26 0,.ptr q27 0,.ptr q28 0,.ptr q29 0,.ptr q30 0,.ptr q31 0,.ptr q32 0,.ptr q33 0]]),(q34,.box q35 [.lst .work lw,.ful q36,.ful q37]),(q38,.rows .slot bs),(q39,.rows .slot sl),(q40,.rows .bool dn)]=>chk (Nat.beq q0 1000000000&&(Nat.beq q1 1000000001&&(Nat.beq q2 1000000002&&(Nat.beq q3 1000000003&&(Nat.beq q4 1000000004&&(Nat.beq q5 1000000005&&(Nat.beq q6 1000000006&&(Nat.beq q7 1000000007&&(Nat.beq q8 1000000000&&(Nat.beq q9 1000000000&&(Nat.beq q10 1000000001&&(Nat.beq q11 1000000001&&(Nat.beq q12 1000000002&&(Nat.beq q13 1000000002&&(Nat.beq q14 1000000003&&(Nat.beq q15 1000000003&&(Nat.beq q16 1000000004&&(Nat.beq q17 1000000004&&(Nat.beq q18 1000000005&&(Nat.beq q19 1000000005&&(Nat.beq q20 1000000008&&(Nat.beq q21 1000000006&&(Nat.beq q22 1000000006&&(Nat.beq q23 1000000009&&(Nat.beq q24 1000000007&&(Nat.beq q25 1000000007&&(Nat.beq q26 1000000000&&(Nat.beq q27 1000000001&&(Nat.beq q28 1000000002&&(Nat.beq q29 1000000003&&(Nat.beq q30 1000000004&&(Nat.beq q31 1000000005&&(Nat.beq q32 1000000006&&(Nat.beq q33 1000000007&&(Nat.beq q34 1000000008&&(Nat.beq q35 1000000008&&(Nat.beq q36 1000000010&&(Nat.beq q37 1000000011&&(Nat.beq q38 1000000009&&(Nat.beq q39 1000000010&&(Nat.beq q40 1000000011&&true))))))))))))))))))))))))))))))))))))))))) (chk (srP l lw (Nat.succ BndS.n) done sl dn) (k (.bool ((aL l most (Nat.succ BndS.n) done sum (⟨met,least,found,bs,sl,dn⟩:Sr)).1)) [(1000000000,(.box 1000000000 [(.int .i64 (Sr.met (aL l most (Nat.succ BndS.n) done sum (⟨met,least,found,bs,sl,dn⟩:Sr)).2))])),(1000000001,(.box 1000000001 [(.int .i64 most)])),(1000000002,(.box 1000000002 [(.lst .work l)])),(1000000003,(.box 1000000003 [(.bool (Sr.found (aL l most (Nat.succ BndS.n) done sum (⟨met,least,found,bs,sl,dn⟩:Sr)).2))])),(1000000004,(.box 1000000004 [(.int .i64 (Sr.least (aL l most (Nat.succ BndS.n) done sum (⟨met,least,found,bs,sl,dn⟩:Sr)).2))])),(1000000005,(.box 1000000005 [(.ptr 1000000008 0)])),(1000000006,(.box 1000000006 [(.ful 1000000009)])),(1000000007,(.box 1000000007 [(.fn 43 [] [(.ptr 1000000000 0),(.ptr 1000000001 0),(.ptr 1000000002 0),(.ptr 1000000003 0),(.ptr 1000000004 0),(.ptr 1000000005 0),(.ptr 1000000006 0),(.ptr 1000000007 0)])])),(1000000008,(.box 1000000008 [(.lst .work lw),(.ful 1000000010),(.ful 1000000011)])),(1000000009,(.rows .slot (Sr.best (aL l most (Nat.succ BndS.n) done sum (⟨met,least,found,bs,sl,dn⟩:Sr)).2))),(1000000010,(.rows .slot (Sr.sl (aL l most (Nat.succ BndS.n) done sum (⟨met,least,found,bs,sl,dn⟩:Sr)).2))),(1000000011,(.rows .bool (Sr.dn (aL l most (Nat.succ BndS.n) done sum (⟨met,least,found,bs,sl,dn⟩:Sr)).2)))]))
  | _,_=>none
theorem spOk:cJ Try.prog E 43 sp:=⟨Try.call43,fun args hs k r h=>by
  unfold sp at h
  split at h
  · obtain ⟨hq, hA⟩ := ab h
    clear h
    simp only [Bool.and_eq_true] at hq
    obtain ⟨e0,e1,e2,e3,e4,e5,e6,e7,e8,e9,e10,e11,e12,e13,e14,e15,e16,e17,e18,e19,e20,e21,e22,e23,e24,e25,e26,e27,e28,e29,e30,e31,e32,e33,e34,e35,e36,e37,e38,e39,e40,_⟩:=hq
    cases Nat.eq_of_beq_eq_true e0
    cases Nat.eq_of_beq_eq_true e1
    cases Nat.eq_of_beq_eq_true e2
    cases Nat.eq_of_beq_eq_true e3
    cases Nat.eq_of_beq_eq_true e4
    cases Nat.eq_of_beq_eq_true e5
    cases Nat.eq_of_beq_eq_true e6
    cases Nat.eq_of_beq_eq_true e7
    cases Nat.eq_of_beq_eq_true e8
    cases Nat.eq_of_beq_eq_true e9
    cases Nat.eq_of_beq_eq_true e10
    cases Nat.eq_of_beq_eq_true e11
    cases Nat.eq_of_beq_eq_true e12
    cases Nat.eq_of_beq_eq_true e13
    cases Nat.eq_of_beq_eq_true e14
    cases Nat.eq_of_beq_eq_true e15
    cases Nat.eq_of_beq_eq_true e16
    cases Nat.eq_of_beq_eq_true e17
    cases Nat.eq_of_beq_eq_true e18
    cases Nat.eq_of_beq_eq_true e19
    cases Nat.eq_of_beq_eq_true e20
    cases Nat.eq_of_beq_eq_true e21
    cases Nat.eq_of_beq_eq_true e22
    cases Nat.eq_of_beq_eq_true e23
    cases Nat.eq_of_beq_eq_true e24
    cases Nat.eq_of_beq_eq_true e25
    cases Nat.eq_of_beq_eq_true e26
    cases Nat.eq_of_beq_eq_true e27
    cases Nat.eq_of_beq_eq_true e28
    cases Nat.eq_of_beq_eq_true e29
    cases Nat.eq_of_beq_eq_true e30
    cases Nat.eq_of_beq_eq_true e31
    cases Nat.eq_of_beq_eq_true e32
    cases Nat.eq_of_beq_eq_true e33
    cases Nat.eq_of_beq_eq_true e34
    cases Nat.eq_of_beq_eq_true e35
    cases Nat.eq_of_beq_eq_true e36
    cases Nat.eq_of_beq_eq_true e37
    cases Nat.eq_of_beq_eq_true e38
    cases Nat.eq_of_beq_eq_true e39
    cases Nat.eq_of_beq_eq_true e40
    obtain ⟨h1,hB⟩:=ab hA
    exact ⟨_,_,spec _ _ _ _ _ _ _ _ _ _ _ h1,hB⟩
  · cases h⟩
theorem spDet:∀ args hs,∃ oo:Option (AV U El×ar U El),∀ k,sp args hs k=oo.bind fun p=>k p.1 p.2:=fun args hs=>by
  unfold sp
  split
  · exact aO (aO ⟨some (_,_),fun _=>rfl⟩)
  · exact ⟨none,fun _=>rfl⟩
end search
end
theorem rC:∀ n,SrC n
  | 0 => fun done sum met most l found least lw bs sl dn h => by
    obtain ⟨_,_,_,_,d,_,_,hc⟩:=srP_iff.1 h
    omega
  | n+1=>@search.spec ⟨n,rC n⟩
namespace searchF
theorem spec (done:Int) (sum:Int) (met:Int) (most:Int) (l:List Work) (found:Bool) (least:Int) (lw:List Work) (bs:List Slot) (sl:List Slot) (dn:List Bool) (h:(srP l lw 200 done sl dn)=true):MCall Try.prog E 43 [(.int .i64 done),(.int .i64 sum),(.ptr 1000000000 0),(.ptr 1000000001 0),(.ptr 1000000002 0),(.ptr 1000000003 0),(.ptr 1000000004 0),(.ptr 1000000005 0),(.ptr 1000000006 0),(.ptr 1000000007 0)] [(1000000000,(.box 1000000000 [(.int .i64 met)])),(1000000001,(.box 1000000001 [(.int .i64 most)])),(1000000002,(.box 1000000002 [(.lst .work l)])),(1000000003,(.box 1000000003 [(.bool found)])),(1000000004,(.box 1000000004 [(.int .i64 least)])),(1000000005,(.box 1000000005 [(.ptr 1000000008 0)])),(1000000006,(.box 1000000006 [(.ful 1000000009)])),(1000000007,(.box 1000000007 [(.fn 43 [] [(.ptr 1000000000 0),(.ptr 1000000001 0),(.ptr 1000000002 0),(.ptr 1000000003 0),(.ptr 1000000004 0),(.ptr 1000000005 0),(.ptr 1000000006 0),(.ptr 1000000007 0)])])),(1000000008,(.box 1000000008 [(.lst .work lw),(.ful 1000000010),(.ful 1000000011)])),(1000000009,(.rows .slot bs)),(1000000010,(.rows .slot sl)),(1000000011,(.rows .bool dn))] (.bool ((aL l most 200 done sum (⟨met,least,found,bs,sl,dn⟩:Sr)).1)) [(1000000000,(.box 1000000000 [(.int .i64 (Sr.met (aL l most 200 done sum (⟨met,least,found,bs,sl,dn⟩:Sr)).2))])),(1000000001,(.box 1000000001 [(.int .i64 most)])),(1000000002,(.box 1000000002 [(.lst .work l)])),(1000000003,(.box 1000000003 [(.bool (Sr.found (aL l most 200 done sum (⟨met,least,found,bs,sl,dn⟩:Sr)).2))])),(1000000004,(.box 1000000004 [(.int .i64 (Sr.least (aL l most 200 done sum (⟨met,least,found,bs,sl,dn⟩:Sr)).2))])),(1000000005,(.box 1000000005 [(.ptr 1000000008 0)])),(1000000006,(.box 1000000006 [(.ful 1000000009)])),(1000000007,(.box 1000000007 [(.fn 43 [] [(.ptr 1000000000 0),(.ptr 1000000001 0),(.ptr 1000000002 0),(.ptr 1000000003 0),(.ptr 1000000004 0),(.ptr 1000000005 0),(.ptr 1000000006 0),(.ptr 1000000007 0)])])),(1000000008,(.box 1000000008 [(.lst .work lw),(.ful 1000000010),(.ful 1000000011)])),(1000000009,(.rows .slot (Sr.best (aL l most 200 done sum (⟨met,least,found,bs,sl,dn⟩:Sr)).2))),(1000000010,(.rows .slot (Sr.sl (aL l most 200 done sum (⟨met,least,found,bs,sl,dn⟩:Sr)).2))),(1000000011,(.rows .bool (Sr.dn (aL l most 200 done sum (⟨met,least,found,bs,sl,dn⟩:Sr)).2)))]:=rC 200 _ _ _ _ _ _ _ _ _ _ _ h
noncomputable def sp:MSp U El:=fun args hs k=>match args,hs with
  | [.int .i64 done,.int .i64 sum,.ptr q0 0,.ptr q1 0,.ptr q2 0,.ptr q3 0,.ptr q4 0,.ptr q5 0,.ptr q6 0,.ptr q7 0],[(q8,.box q9 [.int .i64 met]),(q10,.box q11 [.int .i64 most]),(q12,.box q13 [.lst .work l]),(q14,.box q15 [.bool found]),(q16,.box q17 [.int .i64 least]),(q18,.box q19 [.ptr q20 0]),(q21,.box q22 [.ful q23]),(q24,.box q25 [.fn 43 [] [.ptr q26 0,.ptr q27 0,.ptr q28 0,.ptr q29 0,.ptr q30 0,.ptr q31 0,.ptr q32 0,.ptr q33 0]]),(q34,.box q35 [.lst .work lw,.ful q36,.ful q37]),(q38,.rows .slot bs),(q39,.rows .slot sl),(q40,.rows .bool dn)]=>chk (Nat.beq q0 1000000000&&(Nat.beq q1 1000000001&&(Nat.beq q2 1000000002&&(Nat.beq q3 1000000003&&(Nat.beq q4 1000000004&&(Nat.beq q5 1000000005&&(Nat.beq q6 1000000006&&(Nat.beq q7 1000000007&&(Nat.beq q8 1000000000&&(Nat.beq q9 1000000000&&(Nat.beq q10 1000000001&&(Nat.beq q11 1000000001&&(Nat.beq q12 1000000002&&(Nat.beq q13 1000000002&&(Nat.beq q14 1000000003&&(Nat.beq q15 1000000003&&(Nat.beq q16 1000000004&&(Nat.beq q17 1000000004&&(Nat.beq q18 1000000005&&(Nat.beq q19 1000000005&&(Nat.beq q20 1000000008&&(Nat.beq q21 1000000006&&(Nat.beq q22 1000000006&&(Nat.beq q23 1000000009&&(Nat.beq q24 1000000007&&(Nat.beq q25 1000000007&&(Nat.beq q26 1000000000&&(Nat.beq q27 1000000001&&(Nat.beq q28 1000000002&&(Nat.beq q29 1000000003&&(Nat.beq q30 1000000004&&(Nat.beq q31 1000000005&&(Nat.beq q32 1000000006&&(Nat.beq q33 1000000007&&(Nat.beq q34 1000000008&&(Nat.beq q35 1000000008&&(Nat.beq q36 1000000010&&(Nat.beq q37 1000000011&&(Nat.beq q38 1000000009&&(Nat.beq q39 1000000010&&(Nat.beq q40 1000000011&&true))))))))))))))))))))))))))))))))))))))))) (chk (srP l lw 200 done sl dn) (k (.bool ((aL l most 200 done sum (⟨met,least,found,bs,sl,dn⟩:Sr)).1)) [(1000000000,(.box 1000000000 [(.int .i64 (Sr.met (aL l most 200 done sum (⟨met,least,found,bs,sl,dn⟩:Sr)).2))])),(1000000001,(.box 1000000001 [(.int .i64 most)])),(1000000002,(.box 1000000002 [(.lst .work l)])),(1000000003,(.box 1000000003 [(.bool (Sr.found (aL l most 200 done sum (⟨met,least,found,bs,sl,dn⟩:Sr)).2))])),(1000000004,(.box 1000000004 [(.int .i64 (Sr.least (aL l most 200 done sum (⟨met,least,found,bs,sl,dn⟩:Sr)).2))])),(1000000005,(.box 1000000005 [(.ptr 1000000008 0)])),(1000000006,(.box 1000000006 [(.ful 1000000009)])),(1000000007,(.box 1000000007 [(.fn 43 [] [(.ptr 1000000000 0),(.ptr 1000000001 0),(.ptr 1000000002 0),(.ptr 1000000003 0),(.ptr 1000000004 0),(.ptr 1000000005 0),(.ptr 1000000006 0),(.ptr 1000000007 0)])])),(1000000008,(.box 1000000008 [(.lst .work lw),(.ful 1000000010),(.ful 1000000011)])),(1000000009,(.rows .slot (Sr.best (aL l most 200 done sum (⟨met,least,found,bs,sl,dn⟩:Sr)).2))),(1000000010,(.rows .slot (Sr.sl (aL l most 200 done sum (⟨met,least,found,bs,sl,dn⟩:Sr)).2))),(1000000011,(.rows .bool (Sr.dn (aL l most 200 done sum (⟨met,least,found,bs,sl,dn⟩:Sr)).2)))]))
  | _,_=>none
theorem spOk:cJ Try.prog E 43 sp:=⟨Try.call43,fun args hs k r h=>by
  unfold sp at h
  split at h
  · obtain ⟨hq, hA⟩ := ab h
    clear h
    simp only [Bool.and_eq_true] at hq
    obtain ⟨e0,e1,e2,e3,e4,e5,e6,e7,e8,e9,e10,e11,e12,e13,e14,e15,e16,e17,e18,e19,e20,e21,e22,e23,e24,e25,e26,e27,e28,e29,e30,e31,e32,e33,e34,e35,e36,e37,e38,e39,e40,_⟩:=hq
    cases Nat.eq_of_beq_eq_true e0
    cases Nat.eq_of_beq_eq_true e1
    cases Nat.eq_of_beq_eq_true e2
    cases Nat.eq_of_beq_eq_true e3
    cases Nat.eq_of_beq_eq_true e4
    cases Nat.eq_of_beq_eq_true e5
    cases Nat.eq_of_beq_eq_true e6
    cases Nat.eq_of_beq_eq_true e7
    cases Nat.eq_of_beq_eq_true e8
    cases Nat.eq_of_beq_eq_true e9
    cases Nat.eq_of_beq_eq_true e10
    cases Nat.eq_of_beq_eq_true e11
    cases Nat.eq_of_beq_eq_true e12
    cases Nat.eq_of_beq_eq_true e13
    cases Nat.eq_of_beq_eq_true e14
    cases Nat.eq_of_beq_eq_true e15
    cases Nat.eq_of_beq_eq_true e16
    cases Nat.eq_of_beq_eq_true e17
    cases Nat.eq_of_beq_eq_true e18
    cases Nat.eq_of_beq_eq_true e19
    cases Nat.eq_of_beq_eq_true e20
    cases Nat.eq_of_beq_eq_true e21
    cases Nat.eq_of_beq_eq_true e22
    cases Nat.eq_of_beq_eq_true e23
    cases Nat.eq_of_beq_eq_true e24
    cases Nat.eq_of_beq_eq_true e25
    cases Nat.eq_of_beq_eq_true e26
    cases Nat.eq_of_beq_eq_true e27
    cases Nat.eq_of_beq_eq_true e28
    cases Nat.eq_of_beq_eq_true e29
    cases Nat.eq_of_beq_eq_true e30
    cases Nat.eq_of_beq_eq_true e31
    cases Nat.eq_of_beq_eq_true e32
    cases Nat.eq_of_beq_eq_true e33
    cases Nat.eq_of_beq_eq_true e34
    cases Nat.eq_of_beq_eq_true e35
    cases Nat.eq_of_beq_eq_true e36
    cases Nat.eq_of_beq_eq_true e37
    cases Nat.eq_of_beq_eq_true e38
    cases Nat.eq_of_beq_eq_true e39
    cases Nat.eq_of_beq_eq_true e40
    obtain ⟨h1,hB⟩:=ab hA
    exact ⟨_,_,spec _ _ _ _ _ _ _ _ _ _ _ h1,hB⟩
  · cases h⟩
theorem spDet:∀ args hs,∃ oo:Option (AV U El×ar U El),∀ k,sp args hs k=oo.bind fun p=>k p.1 p.2:=fun args hs=>by
  unfold sp
  split
  · exact aO (aO ⟨some (_,_),fun _=>rfl⟩)
  · exact ⟨none,fun _=>rfl⟩
end searchF
noncomputable def dj (l:List Work) (most:Int):Bool×Sr:=aL l most 200 0 0 ⟨0,0,false,[],List.replicate l.length d_slot,List.replicate l.length d_bool⟩
noncomputable def gN (l:List Work) (crews most:Int):List Slot×Int×Int:=bif !(aQ l crews) then ([],0,1) else bif !(ile 1 most&&ile most 100000) then ([],0,2) else bif !(dj l most).1 then ([],0,6) else ((dj l most).2.best,(dj l most).2.least,0)
noncomputable def ef (l:List Work) (crews most:Int):List Slot:=(gN l crews most).1
noncomputable def fO (l:List Work) (crews most:Int):Int:=(gN l crews most).2.1
noncomputable def fP (l:List Work) (crews most:Int):Int:=(gN l crews most).2.2
noncomputable def rD (g:List Slot×Int×Int):R:=some ((.tup [(.lst .slot g.1),(.int .i64 g.2.1),(.int .i64 g.2.2)]),[])
theorem ll (l:List Work):GS l (List.replicate l.length d_slot) (List.replicate l.length d_bool):=⟨by simp,fun s hs=>by
  have hs':=List.eq_of_mem_replicate hs
  subst hs'
  have:0 < l.length:=by
    rcases Nat.eq_zero_or_pos l.length with e | e
    · rw [e] at hs; cases hs
    · exact e
  exact qV this,gG l⟩
namespace best
noncomputable def bd:Code:=(Try.f15.body).getD .skip
noncomputable def X:Ctx U El:=⟨E,tds,zeros,eqs,aG [(13,valid.sp),(35,within.sp)],100000,30,aD [],cg [(42,(gz draftOf.sp)),(43,(gz searchF.sp))]⟩
noncomputable def nmR:Norm U:=⟨[],[6,7,8],[],[(6,.slot)],[],[],[]⟩
noncomputable def RR:ae U El:=fun st=>aM nmR st (aK [6,7,8] [])
noncomputable def nm1:Norm U:=⟨[],[10,11,14],[3,5,9,10,11,12,13,14,23000,500001000,502300001,502300002],[],[(10,0,.slot,500001000),(23000,1,.slot,502300001),(23000,2,.bool,502300002)],[],[(3,0,.work),(23000,0,.work)]⟩
abbrev Y1:=(List Work)→Int→(List Slot)→Int→Int→Bool→(List Work)→(List Slot)→(List Bool)→R
noncomputable def fr0 (l:List Work) (crews:Int) (most:Int):St U El:=⟨[(0,(.lst .work l)),(1,(.int .i64 crews)),(2,(.int .i64 most))],[]⟩
noncomputable def fr1 (yA:List Work) (zA:Int) (uA:List Slot) (vA:Int) (wA:Int) (xA:Bool) (rA:List Work) (nA:List Slot) (oA:List Bool):St U El:=⟨[(10,(.ptr 10 0)),(11,(.ptr 11 0)),(14,(.ptr 14 0))],[(3,(.box 0 [(.lst .work yA)])),(5,(.box 0 [(.int .i64 zA)])),(9,(.box 0 [(.ptr 23000 0)])),(10,(.box 0 [(.ful 500001000)])),(11,(.box 0 [(.int .i64 vA)])),(12,(.box 0 [(.int .i64 wA)])),(13,(.box 0 [(.bool xA)])),(14,(.box 0 [(.fn 43 [] [(.ptr 12 0),(.ptr 5 0),(.ptr 3 0),(.ptr 13 0),(.ptr 11 0),(.ptr 9 0),(.ptr 10 0),(.ptr 14 0)])])),(23000,(.box 0 [(.lst .work rA),(.ful 502300001),(.ful 502300002)])),(500001000,(.rows .slot uA)),(502300001,(.rows .slot nA)),(502300002,(.rows .bool oA))]⟩
noncomputable def sh0 (l:List Work) (crews:Int) (most:Int) (k1:Y1):R :=
  chk (okV l) (ah (!(aQ l crews)) (some ((.tup [(.lst .slot ([]:List Slot)),(.int .i64 (0:Int)),(.int .i64 (1:Int))]),[])) (ah (!((ile (1:Int) most&&ile most (100000:Int)))) (some ((.tup [(.lst .slot ([]:List Slot)),(.int .i64 (0:Int)),(.int .i64 (2:Int))]),[])) (chk (nle (List.length l) 90000) (k1 l most ([]:List Slot) (0:Int) (0:Int) false (l) (List.replicate (List.length l) d_slot) (List.replicate (List.length l) d_bool)))))
noncomputable def sh1 (yA:List Work) (zA:Int) (uA:List Slot) (vA:Int) (wA:Int) (xA:Bool) (rA:List Work) (nA:List Slot) (oA:List Bool):R :=
  chk (srP yA rA 200 (0:Int) nA oA) (ah (!((aL yA zA 200 (0:Int) (0:Int) (⟨wA,vA,xA,uA,nA,oA⟩:Sr)).1)) (some ((.tup [(.lst .slot ([]:List Slot)),(.int .i64 (0:Int)),(.int .i64 (6:Int))]),[])) (some ((.tup [(.lst .slot (Sr.best (aL yA zA 200 (0:Int) (0:Int) (⟨wA,vA,xA,uA,nA,oA⟩:Sr)).2)),(.int .i64 (Sr.least (aL yA zA 200 (0:Int) (0:Int) (⟨wA,vA,xA,uA,nA,oA⟩:Sr)).2)),(.int .i64 (0:Int))]),[])))
noncomputable def ct1:ae U El:=fun st=>ak X (cdp [1,1,1,1,1,1,1,1] bd) .d st RR (fun _ _=>none) RR
theorem P0 (l crews most):ak X (cdp [] bd) (.seq none .d (.seq none .d (.seq none .d (.seq none .d (.seq none .d (.seq none .d (.seq none .d (.seq (some nm1) .d .d)))))))) (fr0 l crews most) RR (fun _ _=>none) RR=sh0 l crews most (fun y0 y1 y2 y3 y4 y5 y6 y7 y8=>(hid ct1) (fr1 y0 y1 y2 y3 y4 y5 y6 y7 y8)):=by kernel_rfl
theorem P1 (yA zA uA vA wA xA rA nA oA):ct1 (fr1 yA zA uA vA wA xA rA nA oA)=sh1 yA zA uA vA wA xA rA nA oA:=by kernel_rfl
noncomputable def f1 (yA:List Work) (zA:Int) (uA:List Slot) (vA:Int) (wA:Int) (xA:Bool) (rA:List Work) (nA:List Slot) (oA:List Bool):R:=sh1 yA zA uA vA wA xA rA nA oA
noncomputable def f0 (l:List Work) (crews:Int) (most:Int):R:=sh0 l crews most f1
theorem T1 (yA zA uA vA wA xA rA nA oA):(hid ct1) (fr1 yA zA uA vA wA xA rA nA oA)=f1 yA zA uA vA wA xA rA nA oA:=by
  refine (congrFun (am _) _).trans <| (P1 yA zA uA vA wA xA rA nA oA).trans ?_
  show _=sh1 yA zA uA vA wA xA rA nA oA
  rfl
theorem T0 (l crews most):ak X bd (.seq none .d (.seq none .d (.seq none .d (.seq none .d (.seq none .d (.seq none .d (.seq none .d (.seq (some nm1) .d .d)))))))) (fr0 l crews most) RR (fun _ _=>none) RR=f0 l crews most:=by
  refine (P0 l crews most).trans ?_
  show _=sh0 l crews most f1
  simp only [T1]
theorem run (l crews most):bg X bd (.seq none .d (.seq none .d (.seq none .d (.seq none .d (.seq none .d (.seq none .d (.seq none .d (.seq (some nm1) .d .d)))))))) nmR [6,7,8] [] [(.lst .work l),(.int .i64 crews),(.int .i64 most)]=f0 l crews most:=T0 l crews most
theorem f0_eq (l:List Work) (crews most:Int) (h:okV l=true):f0 l crews most=rD (ef l crews most,fO l crews most,fP l crews most):=by
  show sh0 l crews most f1=_
  unfold sh0 ef fO fP gN
  rw [h,cS]
  cases hv:aQ l crews with
  | false=>rfl
  | true =>
    cases hm:(ile 1 most&&ile most 100000) with
    | false=>rfl
    | true =>
      have hl:=(aR hv).len
      rw [bC (show l.length≤90000 by omega)]
      show sh1 l most [] 0 0 false l (List.replicate l.length d_slot) (List.replicate l.length d_bool)=_
      unfold sh1
      have hP:srP l l 200 0 (List.replicate l.length d_slot) (List.replicate l.length d_bool)=true:=srP_iff.2 ⟨rfl,h,jP hv,ll l,0,rfl,by rw [cI]; omega,by rw [cI]; omega⟩
      rw [hP,cS]
      have e:aL l most 200 0 0 (⟨0,0,false,[],List.replicate l.length d_slot,List.replicate l.length d_bool⟩:Sr)=dj l most:=rfl
      rw [e]
      cases hb:(dj l most).1<;>rfl
theorem ok:CtxOk Try.prog X:=aU tab (spC valid.spOk (spC within.spOk spN)) dpN
theorem okM:MOk Try.prog X:=bF _ (mpC (cF ok draftOf.spOk) (mpC (cF ok searchF.spOk) mpN))
theorem spec (l:List Work) (crews:Int) (most:Int) (h:(okV l)=true):az Try.prog E 15 [(.lst .work l),(.int .i64 crews),(.int .i64 most)] (.tup [(.lst .slot (ef l crews most)),(.int .i64 (fO l crews most)),(.int .i64 (fP l crews most))]) [] :=
  aq ok okM Try.call15 Try.func15 (by kernel_rfl) (by kernel_rfl) (by kernel_rfl) (by show 3≤30; decide) (by decide) (by rfl) ((run l crews most).trans (f0_eq l crews most h))
noncomputable def sp:Sp U El:=fun args k=>match args with
  | [.lst .work l,.int .i64 crews,.int .i64 most]=>chk (okV l) (k (.tup [(.lst .slot (ef l crews most)),(.int .i64 (fO l crews most)),(.int .i64 (fP l crews most))]) [])
  | _=>none
theorem spOk:SpOk Try.prog E 15 sp where
  det:=fun vs=>by
    unfold sp
    split
    · exact bz _ _ _
    · exact ⟨none,fun _=>rfl⟩
  ok:=fun vs k r h=>by
    unfold sp at h
    split at h
    · obtain ⟨h1, h2⟩ := ab h
      exact ⟨_,_,spec _ _ _ h1,h2⟩
    · cases h
end best
end Go.Proofs.Ythdklallcljhlaa

namespace Go.Proofs.Ythdklallcljhlaa
set_option linter.unusedSectionVars false
set_option linter.unusedSimpArgs false
set_option linter.unusedVariables false
set_option maxRecDepth 100000
noncomputable def du (l:List Work) (sl:List Slot) (dn:List Bool):Nat→Nat→Int
  | 0,_=>0
  | n+1,k=>(bif List.getD dn k d_bool then ba (List.getD l k aa) (aE l (List.getD sl k d_slot)) else 0)+du l sl dn n (k+1)
structure NFP (l:List Work) (p:List Slot):Prop where
  len:p.length=l.length
  fn:∀ i,i < l.length→fY l p i=0
structure Dom (l:List Work) (p sl:List Slot) (dn:List Bool):Prop where
  le:∀ k,k < l.length→List.getD dn k d_bool=true→(List.getD sl k d_slot).ss≤(List.getD p k d_slot).ss
  cr:∀ k,k < l.length→List.getD dn k d_bool=true→(List.getD sl k d_slot).sc=(List.getD p k d_slot).sc
  ord:∀ k j,k < l.length→j < l.length→List.getD dn k d_bool=true→List.getD dn j d_bool=false→(List.getD p k d_slot).ss≤(List.getD p j d_slot).ss
def Agree (sl sl':List Slot) (dn:List Bool):Prop:=∀ k,List.getD dn k d_bool=true→List.getD sl' k d_slot=List.getD sl k d_slot
structure LV (l:List Work):Prop where
  ok:okV l=true
  v:aQ l 12=true
theorem lm {l:List Work} (h:LV l) {k:Nat} (hk:k < l.length) {e:Int} (he:0≤e∧e≤2000000):0≤ba (List.getD l k aa) e∧ba (List.getD l k aa) e≤2000000000000:=by
  obtain ⟨d1,d2⟩:=ib (aR h.v).good _ (List.getElem_mem hk)
  rw [al hk]
  obtain ⟨x,h1,_,_,_,_,h6,h7⟩:=gL d2 d1 he
  rw [h1]
  exact ⟨h6,h7⟩
theorem nq {l:List Work} {sl:List Slot} {dn:List Bool} {T:Int} (h:LV l) (hJ:GJ l sl dn T) (hT:T≤100000) {k:Nat} (hk:k < l.length) (hd:List.getD dn k d_bool=true):aE l (List.getD sl k d_slot)=(List.getD sl k d_slot).ss+(List.getD l k aa).wh∧0≤(List.getD sl k d_slot).ss∧(List.getD sl k d_slot).ss+(List.getD l k aa).wh≤100000∧1≤(List.getD l k aa).wh∧(List.getD l k aa).wh≤1000:=by
  have hK:=hJ k hk hd
  have hw:=dg (aR h.v).good _ (List.getElem_mem hk)
  have h2:=hK.s9
  have h3:=hK.s0
  have e:(List.getD l k aa).wh=l[k].wh:=by rw [al hk]
  refine ⟨?_,h3,by omega,by omega,by omega⟩
  unfold aE
  rw [hK.sw,ac]
  exact bU (by omega) (by omega)
theorem iS {l:List Work} {p:List Slot} (h:LV l) (hp:NFP l p) {k:Nat} (hk:k < l.length):aE l (List.getD p k d_slot)=(List.getD p k d_slot).ss+(List.getD l k aa).wh∧0≤(List.getD p k d_slot).ss∧(List.getD p k d_slot).ss≤1000000∧1≤(List.getD l k aa).wh∧(List.getD l k aa).wh≤1000:=by
  have hN:=qa (hp.fn k hk)
  have hw:=dg (aR h.v).good _ (List.getElem_mem hk)
  have e:(List.getD l k aa).wh=l[k].wh:=by rw [al hk]
  have h1:=hN.s0
  have h2:=hN.s9
  refine ⟨?_,h1,h2,by omega,by omega⟩
  unfold aE
  rw [hN.sw,ac]
  exact bU (by omega) (by omega)
theorem qq {l:List Work} {sl sl':List Slot} {dn:List Bool} {T:Int} (ha:Agree sl sl' dn) (hJ:GJ l sl dn T):GJ l sl' dn T:=fun k hk hd=>by
  have hK:=hJ k hk hd
  refine ⟨by rw [ha k hd]; exact hK.sw,by rw [ha k hd]; exact hK.cr,by rw [ha k hd]; exact hK.s0,by rw [ha k hd]; exact hK.s9,fun a haa => ?_,fun j hj hdj hc => ?_,fun t ht => ?_⟩
  · obtain ⟨u, h1, h2, h3, h4⟩ := hK.od a haa
    exact ⟨u,h1,h2,h3,by rw [ha u h3,ha k hd]; exact h4⟩
  · exact hK.cf j hj hdj (Conf.congr (p:=sl') (ha k hd).symm (ha j hdj).symm hc)
  · rw [ha k hd] at ht ⊢
    rcases hK.mn t ht with h | ⟨u,h1,h2,h3,h4⟩ | ⟨j,h1,h2,h3,h4⟩
    · exact .inl h
    · exact .inr (.inl ⟨u,h1,h2,h3,by rw [ha u h3]; exact h4⟩)
    · exact .inr (.inr ⟨j,h1,h2,h3,by rw [ha j h3]; exact h4⟩)
theorem kt {l:List Work} {p sl sl':List Slot} {dn:List Bool} (ha:Agree sl sl' dn) (h:Dom l p sl dn):Dom l p sl' dn :=
  ⟨fun k hk hd=>by rw [ha k hd]; exact h.le k hk hd,fun k hk hd=>by rw [ha k hd]; exact h.cr k hk hd,h.ord⟩
theorem o4 {l:List Work} {sl sl':List Slot} {dn:List Bool} (ha:Agree sl sl' dn):∀ n k,du l sl' dn n k=du l sl dn n k:=by
  intro n
  induction n with
  | zero=>intro k; rfl
  | succ n ih =>
    intro k
    simp only [du]
    rw [ih]
    cases hd:List.getD dn k d_bool with
    | false=>rfl
    | true=>rw [ha k hd]
theorem qr {l:List Work} {sl:List Slot} {dn:List Bool} {T:Int} (h:LV l) (hJ:GJ l sl dn T) (hT:T≤100000):∀ n k,n+k=l.length→0≤du l sl dn n k∧du l sl dn n k≤(n:Int) * 2000000000000:=by
  intro n
  induction n with
  | zero=>intro k _; exact ⟨Int.le_refl _,Int.le_refl _⟩
  | succ n ih =>
    intro k hk
    obtain ⟨h1,h2⟩:=ih (k+1) (by omega)
    simp only [du]
    cases hd:List.getD dn k d_bool with
    | false=>rw [cond_false]; omega
    | true =>
      obtain ⟨e1,e2,e3,e4,e5⟩:=nq h hJ hT (by omega) hd
      have hb:=lm h (k:=k) (by omega) (e:=aE l (List.getD sl k d_slot)) (by rw [e1]; omega)
      rw [cond_true]
      omega
theorem re {l : List Work} {sl : List Slot} {dn : List Bool} {q : Nat} {v : Slot} (hqs : q < sl.length) (hqd : q < dn.length) (hd : List.getD dn q d_bool = false) : ∀ n k, (k ≤ q → q < k + n → du l (sl.set q v) (dn.set q true) n k = du l sl dn n k + ba (List.getD l q aa) (aE l v)) ∧ ((q < k ∨ k + n ≤ q) → du l (sl.set q v) (dn.set q true) n k = du l sl dn n k) := by
  intro n
  induction n with
  | zero=>intro k; exact ⟨fun h1 h2=>by omega,fun _=>rfl⟩
  | succ n ih =>
    intro k
    obtain ⟨h1,h2⟩:=ih (k+1)
    simp only [du]
    rw [aX _ _ _ _ hqs,bN _ _ _ hqd]
    refine ⟨fun g1 g2 => ?_,fun g => ?_⟩
    · by_cases e : q = k
      · subst e
        rw [if_pos rfl,if_pos rfl,hd,cond_true,cond_false,h2 (.inl (by omega))]
        omega
      · rw [if_neg e, if_neg e, h1 (by omega) (by omega)]
        omega
    · have e : q ≠ k := by omega
      rw [if_neg e,if_neg e,h2 (by omega)]
theorem sb {l:List Work} {p sl:List Slot} {dn:List Bool} {T:Int} (h:LV l) (hJ:GJ l sl dn T) (hT:T≤100000) (hp:NFP l p) (hD:Dom l p sl dn):∀ n k,n+k=l.length→du l sl dn n k≤du l p dn n k:=by
  intro n
  induction n with
  | zero=>intro k _; exact Int.le_refl _
  | succ n ih =>
    intro k hk
    have h1:=ih (k+1) (by omega)
    have hkl:k < l.length:=by omega
    simp only [du]
    cases hd:List.getD dn k d_bool with
    | false=>rw [cond_false,cond_false]; omega
    | true =>
      obtain ⟨e1,e2,e3,e4,e5⟩:=nq h hJ hT hkl hd
      obtain ⟨f1,f2,f3,f4,f5⟩:=iS h hp hkl
      obtain ⟨d1,d2⟩:=ib (aR h.v).good _ (List.getElem_mem hkl)
      have hle:=hD.le k hkl hd
      have:=(r9 (w:=List.getD l k aa) (e:=aE l (List.getD p k d_slot)) (e':=aE l (List.getD sl k d_slot)) (by rw [al hkl]; exact d2) (by rw [al hkl]; exact d1) (by rw [e1]; omega) (by rw [e1,f1]; omega) (by rw [f1]; omega)).1
      rw [cond_true,cond_true]
      omega
theorem mC {l:List Work} {p:List Slot} {dn:List Bool} (h:LV l) (hp:NFP l p) (hall:∀ k,k < l.length→List.getD dn k d_bool=true):∀ n k s,n+k=l.length→0≤s→s≤(k:Int) * 2000000000000→mo l p n k s=s+du l p dn n k:=by
  have hl:=(aR h.v).len
  intro n
  induction n with
  | zero=>intro k s _ _ _; simp [mo,du]
  | succ n ih =>
    intro k s hk h1 h2
    have hkl:k < l.length:=by omega
    obtain ⟨f1,f2,f3,f4,f5⟩:=iS h hp hkl
    have hb:=lm h hkl (e:=aE l (List.getD p k d_slot)) (by rw [f1]; omega)
    simp only [mo,du]
    rw [hall k hkl,cond_true,bU (by omega) (by omega),ih (k+1) _ (by omega) (by omega) (by omega)]
    omega
def sd (l:List Work) (b:List Slot) (v:Int):Prop:=NFP l b∧iu l b=v
structure Gd (l:List Work) (s:Sr) (d:Nat) (sum:Int):Prop where
  gs:GS l s.sl s.dn
  gj:GJ l s.sl s.dn ((d:Int) * 1000)
  cnt:d+bh s.dn=l.length
  sum:sum=du l s.sl s.dn l.length 0
  lf:s.found=true→sd l s.best s.least
structure Res (l:List Work) (s:Sr) (r:Bool×Sr):Prop where
  lf:r.2.found=true→sd l r.2.best r.2.least
  mono:s.found=true→r.2.found=true∧r.2.least≤s.least
  keep:r.1=true→r.2.dn=s.dn∧GS l r.2.sl s.dn∧Agree s.sl r.2.sl s.dn
theorem mD {l:List Work} {s:Sr} {d:Nat} {sum:Int} {q:Nat} {c:Int} (h:LV l) (hG:Gd l s d sum) (hq:q < l.length) (hr:bx l s.dn (q:Int)=true) (hc:List.any (List.getD l q aa).wc (bc c)=true) :
    Gd l (bk l s (q:Int) c) (d+1) (IntKind.wrap .i64 (sum+ba (List.getD l (Int.toNat (q:Int)) aa) (aE l (List.getD (bk l s (q:Int) c).sl (Int.toNat (q:Int)) d_slot)))) ∧
      ∃ v:Int,(bk l s (q:Int) c).sl=s.sl.set q ⟨(q:Int),c,v⟩∧∀ t,t < v→cY l s.sl s.dn q c t:=by
  have hl:=(aR h.v).len
  have hS:=mq h.ok h.v hG.gs hq hr
  have hqs:q < s.sl.length:=by rw [hG.gs.len]; exact hq
  have hqd:q < s.dn.length:=by rw [hG.gs.good.1]; exact hq
  have hd:=(cT hr).1
  have hcs:=dR s.dn q hqd hd
  have hcnt:=hG.cnt
  obtain ⟨v,s1,s2,s3,s4,s5⟩:=gM hS hG.gj (by omega) (by omega) hc
  have es:(bk l s (q:Int) c).sl=s.sl.set q ⟨(q:Int),c,v⟩:=by
    show List.set s.sl q ⟨(q:Int),c,lg l s.sl s.dn q c⟩=_
    rw [s1]
  have ed:(bk l s (q:Int) c).dn=s.dn.set q true:=rfl
  obtain ⟨k1,_⟩:=gK hG.gs hq hr c v
  have hJ':=li hS hG.gj hc s2 s3 (by omega) s4 s5
  refine ⟨⟨by rw [es,ed]; exact k1,by rw [es,ed,show (((d+1:Nat):Int)) * 1000=(d:Int) * 1000+1000 by omega]; exact hJ',by rw [ed]; omega,?_,hG.lf⟩,v,es,s5⟩
  have af:List.getD (s.sl.set q ⟨(q:Int),c,v⟩) q d_slot=⟨(q:Int),c,v⟩:=by rw [aX _ _ _ _ hqs,if_pos rfl]
  have hb:=qr h hG.gj (by omega) l.length 0 (by omega)
  have hwh:=hS.ff.wh q hq
  have he:aE l ⟨(q:Int),c,v⟩=v+(List.getD l q aa).wh:=by
    unfold aE
    show IntKind.wrap .i64 (v+(List.getD l (Int.toNat (q:Int)) aa).wh)=_
    rw [ac]
    exact bU (by omega) (by omega)
  have hb2:=lm h hq (e:=aE l ⟨(q:Int),c,v⟩) (by rw [he]; omega)
  rw [es,ed,ac,af,(re hqs hqd hd l.length 0).1 (by omega) (by omega),hG.sum]
  exact bU (by omega) (by omega)
theorem o5 {l:List Work} {p:List Slot} {s:Sr} {q:Nat} {v:Int} (h:LV l) (hp:NFP l p) (hG:GS l s.sl s.dn) (hD:Dom l p s.sl s.dn) (hq:q < l.length) (hr:bx l s.dn (q:Int)=true) (hmin:∀ j,j < l.length→List.getD s.dn j d_bool=false→(List.getD p q d_slot).ss≤(List.getD p j d_slot).ss) (hB:∀ t,t < v→cY l s.sl s.dn q (List.getD p q d_slot).sc t) :
    Dom l p (s.sl.set q ⟨(q:Int),(List.getD p q d_slot).sc,v⟩) (s.dn.set q true):=by
  have hqs:q < s.sl.length:=by rw [hG.len]; exact hq
  have hqd:q < s.dn.length:=by rw [hG.good.1]; exact hq
  have hd:=(cT hr).1
  obtain ⟨hBa,hCf⟩:=faultN_iff.1 (hp.fn q hq)
  have hv:v≤(List.getD p q d_slot).ss:=by
    by_cases e:v≤(List.getD p q d_slot).ss
    · exact e
    exfalso
    rcases hB _ (by omega:(List.getD p q d_slot).ss < v) with g | ⟨u,g1,g2,g3,g4⟩ | ⟨j,g1,g2,g3,g4,g5,g6⟩
    · have:=hBa.s0; omega
    · have h1 := hBa.ord _ g1
      rw [ac] at h1
      have h2:=hD.le u g2 g3
      omega
    · have h2 := hD.le j g1 g3
      have h3:=hD.cr j g1 g3
      have h4:=hD.ord j q g1 hq g3 hd
      have hw:=iS h hp hq
      refine hCf j g1 ⟨g2,by omega,by omega,?_⟩
      rw [← h3]
      exact g6
  refine ⟨fun k hk hdk => ?_,fun k hk hdk => ?_,fun k j hk hj hdk hdj => ?_⟩
  · rw [aX _ _ _ _ hqs]
    rw [bN _ _ _ hqd] at hdk
    by_cases e:q=k
    · subst e; rw [if_pos rfl]; exact hv
    · rw [if_neg e] at hdk ⊢; exact hD.le k hk hdk
  · rw [aX _ _ _ _ hqs]
    rw [bN _ _ _ hqd] at hdk
    by_cases e:q=k
    · subst e; rw [if_pos rfl]
    · rw [if_neg e] at hdk ⊢; exact hD.cr k hk hdk
  · rw [bN _ _ _ hqd] at hdk hdj
    have ej:q≠j:=fun e=>by rw [if_pos e] at hdj; cases hdj
    rw [if_neg ej] at hdj
    by_cases e:q=k
    · subst e; exact hmin j hj hdj
    · rw [if_neg e] at hdk; exact hD.ord k j hk hj hdk hdj
theorem n4 {l:List Work} {s:Sr} {d:Nat} {sum:Int} {q:Nat} {c:Int} {r:Bool×Sr} (h:LV l) (hG:Gd l s d sum) (hq:q < l.length) (hr:bx l s.dn (q:Int)=true) (hR:Res l (bk l s (q:Int) c) r) (hb:r.1=true) :
    (ee r.2 (q:Int)).dn=s.dn∧GS l (ee r.2 (q:Int)).sl s.dn∧Agree s.sl (ee r.2 (q:Int)).sl s.dn∧Gd l (ee r.2 (q:Int)) d sum:=by
  have hqs:q < s.sl.length:=by rw [hG.gs.len]; exact hq
  have hqd:q < s.dn.length:=by rw [hG.gs.good.1]; exact hq
  have hd:=(cT hr).1
  obtain ⟨k1,k2,k3⟩:=hR.keep hb
  have ed:(bk l s (q:Int) c).dn=s.dn.set q true:=rfl
  rw [ed] at k1 k2 k3
  have hback:(ee r.2 (q:Int)).dn=s.dn:=by
    show List.set r.2.dn q false=s.dn
    rw [k1]
    exact jQ hqd hd
  have hag:Agree s.sl (ee r.2 (q:Int)).sl s.dn:=fun k hk=>by
    have hne:q≠k:=fun e=>by rw [← e,hd] at hk; cases hk
    have h1:=k3 k (by rw [bN _ _ _ hqd,if_neg hne]; exact hk)
    have h2:List.getD (bk l s (q:Int) c).sl k d_slot=List.getD s.sl k d_slot:=by
      show List.getD (List.set s.sl q _) k d_slot=_
      rw [aX _ _ _ _ hqs,if_neg hne]
    show List.getD r.2.sl k d_slot=_
    rw [h1,h2]
  have hgs:GS l (ee r.2 (q:Int)).sl s.dn:=⟨k2.len,k2.sw,hG.gs.good⟩
  exact ⟨hback,hgs,hag,by rw [hback]; exact hgs,by rw [hback]; exact qq hag hG.gj,by rw [hback]; exact hG.cnt,by rw [hback,o4 hag]; exact hG.sum,hR.lf⟩
theorem Agree.trans {sl sl' sl'':List Slot} {dn:List Bool} (h1:Agree sl sl' dn) (h2:Agree sl' sl'' dn):Agree sl sl'' dn:=fun k hk=>by rw [h2 k hk,h1 k hk]
def Cpl (l:List Work) (p:List Slot) (r:Bool×Sr):Prop:=r.1=true→r.2.found=true∧r.2.least≤iu l p
theorem o6 {l : List Work} {rec_ : Int → Sr → Bool × Sr} {sum : Int} {q d : Nat} {dn : List Bool} (h : LV l) (hq : q < l.length) (hr : bx l dn (q : Int) = true)
    (hrec:∀ sum' s',s'.dn=dn.set q true→Gd l s' (d+1) sum'→Res l s' (rec_ sum' s')∧∀ p,NFP l p→Dom l p s'.sl s'.dn→Cpl l p (rec_ sum' s')) :
    ∀ (cs : List Int) (s : Sr), (∀ c ∈ cs, List.any (List.getD l q aa).wc (bc c) = true) → s.dn = dn → Gd l s d sum →
      Res l s (bn rec_ l sum (q:Int) cs s)∧((bn rec_ l sum (q:Int) cs s).1=true→Gd l (bn rec_ l sum (q:Int) cs s).2 d sum)∧∀ p,NFP l p→Dom l p s.sl dn→(∀ j,j < l.length→List.getD dn j d_bool=false→(List.getD p q d_slot).ss≤(List.getD p j d_slot).ss)→(List.getD p q d_slot).sc∈cs→Cpl l p (bn rec_ l sum (q:Int) cs s):=by
  intro cs
  induction cs with
  | nil =>
    intro s _ hdn hG
    exact ⟨⟨hG.lf,fun hf=>⟨hf,Int.le_refl _⟩,fun _=>⟨rfl,hG.gs,fun _ _=>rfl⟩⟩,fun _=>hG,fun p _ _ _ hm=>by cases hm⟩
  | cons c cs ih =>
    intro s hcs hdn hG
    subst hdn
    obtain ⟨hG1,v,es,hB⟩:=mD h hG hq hr (hcs c (List.mem_cons_self ..))
    simp only [bn]
    obtain ⟨hR,hC⟩:=hrec _ (bk l s (q:Int) c) rfl hG1
    generalize rec_ (IntKind.wrap .i64 (sum+ba (List.getD l (Int.toNat (q:Int)) aa) (aE l (List.getD (bk l s (q:Int) c).sl (Int.toNat (q:Int)) d_slot)))) (bk l s (q:Int) c)=r at hR hC ⊢
    cases hb:r.1 with
    | false =>
      refine ⟨⟨hR.lf,hR.mono,fun hx=>by cases hx⟩,fun hx=>(by cases hx),fun p _ _ _ _ hx=>by cases hx⟩
    | true =>
      rw [Bool.not_true,cond_false]
      obtain ⟨b1,b2,b3,b4⟩:=n4 h hG hq hr hR hb
      obtain ⟨a1,a2,a3⟩:=ih (ee r.2 (q:Int)) (fun c' hc'=>hcs c' (List.mem_cons_of_mem _ hc')) b1 b4
      refine ⟨⟨a1.lf,fun hf => ?_,fun hx => ?_⟩,a2,fun p hp hD hmin hm hx => ?_⟩
      · obtain ⟨m1, m2⟩ := hR.mono hf
        obtain ⟨m3,m4⟩:=a1.mono m1
        exact ⟨m3,Int.le_trans m4 m2⟩
      · obtain ⟨k1, k2, k3⟩ := a1.keep hx
        rw [b1] at k1 k2 k3
        exact ⟨k1,k2,b3.trans k3⟩
      · rcases List.mem_cons.1 hm with e | hm
        · have hD' : Dom l p (bk l s (q : Int) c).sl (bk l s (q : Int) c).dn := by
            rw [es]
            subst e
            exact o5 h hp hG.gs hD hq hr hmin hB
          obtain ⟨c1,c2⟩:=hC p hp hD' hb
          obtain ⟨m3,m4⟩:=a1.mono c1
          exact ⟨m3,Int.le_trans m4 c2⟩
        · exact a3 p hp (kt b3 hD) hmin hm hx
theorem o7 {l : List Work} {rec_ : Int → Sr → Bool × Sr} {sum : Int} {d : Nat} {dn : List Bool} (h : LV l)
    (hrec:∀ q sum' s',q < l.length→bx l dn (q:Int)=true→s'.dn=dn.set q true→Gd l s' (d+1) sum'→Res l s' (rec_ sum' s')∧∀ p,NFP l p→Dom l p s'.sl s'.dn→Cpl l p (rec_ sum' s')) :
    ∀ (m k : Nat) (s : Sr), k + m = l.length → s.dn = dn → Gd l s d sum →
      Res l s (cd rec_ l sum m k s)∧∀ p q,NFP l p→Dom l p s.sl dn→k≤q→q < l.length→bx l dn (q:Int)=true→(∀ j,j < l.length→List.getD dn j d_bool=false→(List.getD p q d_slot).ss≤(List.getD p j d_slot).ss)→Cpl l p (cd rec_ l sum m k s):=by
  intro m
  induction m with
  | zero =>
    intro k s hk hdn hG
    exact ⟨⟨hG.lf,fun hf=>⟨hf,Int.le_refl _⟩,fun _=>⟨rfl,hG.gs,fun _ _=>rfl⟩⟩,fun p q _ _ h1 h2=>by omega⟩
  | succ m ih =>
    intro k s hk hdn hG
    have hkl:k < l.length:=by omega
    simp only [cd]
    rw [hdn]
    cases hr:bx l dn (k:Int) with
    | false =>
      rw [cond_false]
      obtain ⟨a1,a2⟩:=ih (k+1) s (by omega) hdn hG
      refine ⟨a1,fun p q hp hD h1 h2 h3 h4=>a2 p q hp hD ?_ h2 h3 h4⟩
      by_cases e:q=k
      · subst e; rw [hr] at h3; cases h3
      · omega
    | true =>
      rw [cond_true]
      have hany:∀ c∈(List.getD l k aa).wc,List.any (List.getD l k aa).wc (bc c)=true:=fun c hc=>List.any_eq_true.2 ⟨c,hc,by simp [bc]⟩
      obtain ⟨a1,a2,a3⟩:=o6 h hkl hr (fun sum' s'=>hrec k sum' s' hkl hr) (List.getD l k aa).wc s hany hdn hG
      generalize bn rec_ l sum (k:Int) (List.getD l k aa).wc s=r at a1 a2 a3 ⊢
      cases hb:r.1 with
      | false=>exact ⟨⟨a1.lf,a1.mono,fun hx=>by cases hx⟩,fun p q _ _ _ _ _ _ hx=>by cases hx⟩
      | true =>
        rw [cond_true]
        obtain ⟨k1,k2,k3⟩:=a1.keep hb
        obtain ⟨c1,c2⟩:=ih (k+1) r.2 (by omega) (by rw [k1,hdn]) (a2 hb)
        rw [hdn] at k3
        refine ⟨⟨c1.lf,fun hf => ?_,fun hx => ?_⟩,fun p q hp hD h1 h2 h3 h4 => ?_⟩
        · obtain ⟨m1, m2⟩ := a1.mono hf
          obtain ⟨m3,m4⟩:=c1.mono m1
          exact ⟨m3,Int.le_trans m4 m2⟩
        · obtain ⟨g1, g2, g3⟩ := c1.keep hx
          rw [k1] at g1 g2 g3
          exact ⟨g1,g2,by rw [hdn] at g3 ⊢; exact k3.trans g3⟩
        · by_cases e : q = k
          · subst e
            intro hx
            have hsc:(List.getD p q d_slot).sc∈(List.getD l q aa).wc:=by
              have hcr:=(faultN_iff.1 (hp.fn q h2)).1.cr
              obtain ⟨a,ha1,ha2⟩:=List.any_eq_true.1 hcr
              have:a=(List.getD p q d_slot).sc:=by
                simp only [bc,beq_iff_eq] at ha2
                first | exact ha2 | exact ha2.symm
              rw [← this]; exact ha1
            obtain ⟨m1,m2⟩:=a3 p hp hD h4 hsc hb
            obtain ⟨m3,m4⟩:=c1.mono m1
            exact ⟨m3,Int.le_trans m4 m2⟩
          · exact c2 p q hp (kt k3 hD) (by omega) h2 h3 h4
theorem rf {l : List Work} (p : List Slot) (dn : List Bool) (hdl : dn.length = l.length) (hp : 0 < bh dn) : ∃ q, q < l.length ∧ List.getD dn q d_bool = false ∧ ∀ j, j < l.length → List.getD dn j d_bool = false → (List.getD p q d_slot).ss ≤ (List.getD p j d_slot).ss := by
  obtain ⟨i,hi,hd⟩:=nT dn hp
  have key:∀ n,∃ q,q < l.length∧List.getD dn q d_bool=false∧∀ j,j < n→j < l.length→List.getD dn j d_bool=false→(List.getD p q d_slot).ss≤(List.getD p j d_slot).ss:=by
    intro n
    induction n with
    | zero=>exact ⟨i,by omega,hd,fun j hj=>by omega⟩
    | succ n ih =>
      obtain ⟨q,h1,h2,h3⟩:=ih
      by_cases e:n < l.length∧List.getD dn n d_bool=false∧(List.getD p n d_slot).ss < (List.getD p q d_slot).ss
      · obtain ⟨e1, e2, e3⟩ := e
        refine ⟨n,e1,e2,fun j hj hjl hdj => ?_⟩
        by_cases ej:j=n
        · subst ej; exact Int.le_refl _
        · have:=h3 j (by omega) hjl hdj; omega
      · refine ⟨q, h1, h2, fun j hj hjl hdj => ?_⟩
        by_cases ej:j=n
        · subst ej
          by_cases e2:(List.getD p q d_slot).ss≤(List.getD p j d_slot).ss
          · exact e2
          · exact absurd ⟨hjl,hdj,by omega⟩ e
        · exact h3 j (by omega) hjl hdj
  obtain ⟨q,h1,h2,h3⟩:=key l.length
  exact ⟨q,h1,h2,fun j hj hdj=>h3 j hj hj hdj⟩
theorem rg {l:List Work} {s:Sr} {d:Nat} {sum:Int} (h:LV l) (hG:Gd l s d sum):Gd l (di l (d:Int) sum s) d sum∧(s.found=true→(di l (d:Int) sum s).found=true∧(di l (d:Int) sum s).least≤s.least)∧(d=l.length→(di l (d:Int) sum s).found=true∧(di l (d:Int) sum s).least≤sum):=by
  have hl:=(aR h.v).len
  have hcnt:=hG.cnt
  unfold di
  by_cases hd:d=l.length
  · have hall : ∀ k, k < l.length → List.getD s.dn k d_bool = true := fun k hk => dH s.dn (by omega) k (by rw [hG.gs.good.1]; exact hk)
    have e1:((d:Int) == Int.ofNat l.length)=true:=by rw [hd]; exact beq_self_eq_true _
    have hN:NFP l s.sl:=⟨hG.gs.len,fun i hi=>by
      have hK:=hG.gj i hi (hall i hi)
      have h9:=hK.s9
      have hw:=(dg (aR h.v).good _ (List.getElem_mem hi)).1
      refine faultN_iff.2 ⟨⟨hK.sw,hK.cr,hK.s0,by rw [al hi] at h9; omega,fun a ha => ?_⟩,fun k hk=>hK.cf k hk (hall k hk)⟩
      obtain ⟨u,rfl,_,_,hle⟩:=hK.od a ha
      rw [ac]
      omega⟩
    have hcost:iu l s.sl=sum:=by
      unfold iu
      rw [hG.gs.len,mC h hN hall l.length 0 0 (by omega) (by omega) (by omega),Int.zero_add]
      exact hG.sum.symm
    have hbest:Gd l (⟨s.met,sum,true,s.sl,s.sl,s.dn⟩:Sr) d sum:=⟨hG.gs,hG.gj,hG.cnt,hG.sum,fun _=>⟨hN,hcost⟩⟩
    rw [e1,Bool.true_and]
    cases hf:s.found with
    | false=>exact ⟨hbest,(fun hx=>by cases hx),fun _=>⟨rfl,Int.le_refl _⟩⟩
    | true =>
      rw [Bool.not_true,Bool.false_or]
      cases hlt:ilt sum s.least with
      | true=>exact ⟨hbest,fun _=>⟨rfl,by have:=dJ hlt; show sum≤s.least; omega⟩,fun _=>⟨rfl,Int.le_refl _⟩⟩
      | false=>exact ⟨hG,fun _=>⟨hf,Int.le_refl _⟩,fun _=>⟨hf,by have:=iI hlt; show s.least≤sum; omega⟩⟩
  · have e1 : ((d : Int) == Int.ofNat l.length) = false := beq_eq_false_iff_ne.2 fun e => hd (Int.ofNat.inj e)
    rw [e1,Bool.false_and]
    exact ⟨hG,fun hf=>⟨hf,Int.le_refl _⟩,fun hx=>absurd hx hd⟩
theorem mE {l : List Work} {most : Int} (h : LV l) : ∀ (n d : Nat) (sum : Int) (s : Sr), Gd l s d sum → bh s.dn < n → Res l s (aL l most n (d : Int) sum s) ∧ ∀ p, NFP l p → Dom l p s.sl s.dn → Cpl l p (aL l most n (d : Int) sum s) := by
  have hl:=(aR h.v).len
  intro n
  induction n with
  | zero=>intro d sum s _ hc; omega
  | succ n ih =>
    intro d sum s hG hc
    have hcnt:=hG.cnt
    simp only [aL]
    cases ilt most (IntKind.wrap .i64 (s.met+1)) with
    | true=>exact ⟨⟨hG.lf,fun hf=>⟨hf,Int.le_refl _⟩,fun hx=>by cases hx⟩,fun p _ _ hx=>by cases hx⟩
    | false =>
      rw [cond_false]
      have hG0:Gd l (⟨IntKind.wrap .i64 (s.met+1),s.least,s.found,s.best,s.sl,s.dn⟩:Sr) d sum:=⟨hG.gs,hG.gj,hG.cnt,hG.sum,hG.lf⟩
      obtain ⟨g1,g2,g3⟩:=rg h hG0
      obtain ⟨e1,e2,_⟩:=lk l (d:Int) sum ⟨IntKind.wrap .i64 (s.met+1),s.least,s.found,s.best,s.sl,s.dn⟩
      have hw1:IntKind.wrap .i64 ((d:Int)+1)=((d+1:Nat):Int):=bo d (by omega)
      obtain ⟨a1,a2⟩:=o7 (rec_:=fun sum' s'=>aL l most n (IntKind.wrap .i64 ((d:Int)+1)) sum' s') (sum:=sum) (d:=d) (dn:=s.dn) h (fun q sum' s' hq hr hd hg'=>by
        have hcs:=dR s.dn q (by rw [hG.gs.good.1]; exact hq) (cT hr).1
        show Res l s' (aL l most n (IntKind.wrap .i64 ((d:Int)+1)) sum' s')∧_
        rw [hw1]
        exact ih (d+1) sum' s' hg' (by rw [hd]; omega)) l.length 0 (di l (d:Int) sum ⟨IntKind.wrap .i64 (s.met+1),s.least,s.found,s.best,s.sl,s.dn⟩) (by omega) e1 g1
      generalize cd (fun sum' s'=>aL l most n (IntKind.wrap .i64 ((d:Int)+1)) sum' s') l sum l.length 0 (di l (d:Int) sum ⟨IntKind.wrap .i64 (s.met+1),s.least,s.found,s.best,s.sl,s.dn⟩)=r at a1 a2 ⊢
      refine ⟨⟨a1.lf,fun hf => ?_,fun hx => ?_⟩,fun p hp hD => ?_⟩
      · obtain ⟨m1, m2⟩ := g2 hf
        obtain ⟨m3,m4⟩:=a1.mono m1
        exact ⟨m3,Int.le_trans m4 m2⟩
      · obtain ⟨k1, k2, k3⟩ := a1.keep hx
        rw [e1] at k1 k2 k3
        rw [e2] at k3
        exact ⟨k1,k2,k3⟩
      · by_cases hz : bh s.dn = 0
        · intro hx
          obtain ⟨m1,m2⟩:=g3 (by omega)
          obtain ⟨m3,m4⟩:=a1.mono m1
          have hall:∀ k,k < l.length→List.getD s.dn k d_bool=true:=fun k hk=>dH s.dn hz k (by rw [hG.gs.good.1]; exact hk)
          have h5:=sb h hG.gj (by omega) hp hD l.length 0 (by omega)
          have h6:iu l p=du l p s.dn l.length 0:=by
            unfold iu
            rw [hp.len,mC h hp hall l.length 0 0 (by omega) (by omega) (by omega),Int.zero_add]
          have h7:=hG.sum
          exact ⟨m3,by omega⟩
        · obtain ⟨q, hq, hdq, hmin⟩ := rf (l := l) p s.dn hG.gs.good.1 (by omega)
          have hr:bx l s.dn (q:Int)=true:=by
            simp only [bx,Bool.and_eq_true,Bool.not_eq_true',ac]
            refine ⟨hdq,List.any_eq_false.2 fun a ha => ?_⟩
            have hO:=bX h.ok (aR h.v).good
            have hb:=((cX hO).2 _ (List.getElem_mem hq)).2 a (by rw [al hq] at ha; exact ha)
            simp only [inb,Bool.and_eq_true] at hb
            obtain ⟨u,rfl⟩:=Int.eq_ofNat_of_zero_le (b7 hb.1)
            have hul:u < l.length:=by have:=dJ hb.2; simp at this; omega
            have hord:=(faultN_iff.1 (hp.fn q hq)).1.ord _ ha
            rw [ac] at hord
            have hwu:=iS h hp hul
            have hdu:List.getD s.dn u d_bool=true:=by
              cases hx:List.getD s.dn u d_bool with
              | true=>rfl
              | false=>have:=hmin u hul hx; omega
            have:aW s.dn (u:Int)=false:=by unfold aW; rw [ac,hdu]; rfl
            rw [this]
            simp
          exact a2 p q hp (by rw [e2]; exact hD) (by omega) hq hr hmin
theorem o8 {l:List Work} {most:Int} (h:LV l) (hb:(dj l most).1=true):(dj l most).2.found=true∧sd l (dj l most).2.best (dj l most).2.least∧∀ p,NFP l p→(dj l most).2.least≤iu l p:=by
  have hl:=(aR h.v).len
  have hno:∀ k,k < l.length→List.getD (List.replicate l.length d_bool) k d_bool=true→False:=fun k hk hd=>by
    rw [al (by simpa using hk),List.getElem_replicate] at hd
    cases hd
  have hs0:∀ n k,n+k=l.length→du l (List.replicate l.length d_slot) (List.replicate l.length d_bool) n k=0:=by
    intro n
    induction n with
    | zero=>intro k _; rfl
    | succ n ih =>
      intro k hk
      simp only [du]
      rw [ih (k+1) (by omega)]
      cases hd:List.getD (List.replicate l.length d_bool) k d_bool with
      | false=>rfl
      | true=>exact (hno k (by omega) hd).elim
  have hG:Gd l (⟨0,0,false,[],List.replicate l.length d_slot,List.replicate l.length d_bool⟩:Sr) 0 0:=⟨ll l,fun k hk hd=>(hno k hk hd).elim,by rw [cI]; omega,(hs0 l.length 0 (by omega)).symm,fun hx=>by cases hx⟩
  obtain ⟨a1,a2⟩:=mE (most:=most) h 200 0 0 _ hG (by show bh (List.replicate l.length d_bool) < 200; rw [cI]; omega)
  have e:aL l most 200 ((0:Nat):Int) 0 (⟨0,0,false,[],List.replicate l.length d_slot,List.replicate l.length d_bool⟩:Sr)=dj l most:=rfl
  rw [e] at a1 a2
  have hC:∀ p,NFP l p→(dj l most).2.found=true∧(dj l most).2.least≤iu l p:=fun p hp=>a2 p hp ⟨fun k hk hd=>(hno k hk hd).elim,fun k hk hd=>(hno k hk hd).elim,fun k j hk _ hd _=>(hno k hk hd).elim⟩ hb
  have hgr:=o0 h.ok h.v
  have hf:=(hC _ ⟨hgr.len,hgr.fn⟩).1
  exact ⟨hf,a1.lf hf,fun p hp=>(hC p hp).2⟩
end Go.Proofs.Ythdklallcljhlaa
