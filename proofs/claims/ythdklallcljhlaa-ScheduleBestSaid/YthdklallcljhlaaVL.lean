/- The earliest ends of works: a closure that calls itself. -/
import Derived.Test.YthdklallcljhlaaVH
namespace Go.Proofs.Ythdklallcljhlaa
set_option linter.unusedSectionVars false
set_option linter.unusedSimpArgs false
set_option linter.unusedVariables false
set_option maxRecDepth 100000
noncomputable def depB (l:List Work):Nat→Int→Bool
  | 0,_=>false
  | n+1,i=>List.all (List.getD l (Int.toNat i) d_work).wa (depB l n)
noncomputable def mx (a b:Int):Int:=bif ilt a b then b else a
noncomputable def endF (l:List Work):Nat→Int→Int
  | 0,_=>0
  | n+1,i=>List.foldl (fun m a=>mx m (endF l n a)) 0 (List.getD l (Int.toNat i) d_work).wa+(List.getD l (Int.toNat i) d_work).wh
noncomputable def endE (l:List Work) (i:Int):Int:=endF l 200 i
noncomputable def okE (l:List Work):Bool:=okO l&&(nle l.length 100&&(List.all l (fun w=>ile 1 w.wh&&ile w.wh 1000)&&List.all (List.range l.length) (fun i=>depB l 100 (i:Int))))
noncomputable def outOk (l:List Work) (out:List Int):Bool:=Nat.beq out.length l.length&&List.all (List.range l.length) (fun j=>List.getD out j d_int == 0||List.getD out j d_int == endE l (j:Int))
noncomputable def visP (l:List Work) (n:Nat) (i:Int) (out:List Int):Bool:=okE l&&(outOk l out&&(inb i l.length&&depB l n i))
noncomputable def visO (l:List Work):Nat→Int→List Int→List Int
  | 0,_,out=>out
  | n+1,i,out=>bif List.getD out (Int.toNat i) d_int == (0:Int) then List.set (List.foldl (fun o a=>visO l n a o) out (List.getD l (Int.toNat i) d_work).wa) (Int.toNat i) (endE l i) else out
noncomputable def endsL (l:List Work):List Int:=List.map (fun j:Nat=>endE l (j:Int)) (List.range l.length)
structure EE (l:List Work):Prop where
  n:l.length≤100
  wa:∀ (i:Nat) (h:i < l.length),l[i].wa.length≤90000∧∀ a∈l[i].wa,∃ q:Nat,a=(q:Int)∧q < l.length
  wh:∀ (i:Nat) (h:i < l.length),1≤l[i].wh∧l[i].wh≤1000
  dep:∀ (i:Nat),i < l.length→depB l 100 (i:Int)=true
theorem okE_of {l:List Work} (h:okE l=true):EE l:=by
  simp only [okE,Bool.and_eq_true] at h
  obtain ⟨h1,h2,h3,h4⟩:=h
  obtain ⟨g1,g2⟩:=okO_len h1
  refine ⟨nleI h2,fun i hi=>⟨(g2 _ (List.getElem_mem hi)).1,fun a ha => ?_⟩,fun i hi => ?_,fun i hi=>List.all_eq_true.1 h4 i (List.mem_range.2 hi)⟩
  · have := (g2 _ (List.getElem_mem hi)).2 a ha
    simp only [inb,Bool.and_eq_true] at this
    obtain ⟨q,rfl⟩:=Int.eq_ofNat_of_zero_le (ileI this.1)
    have q2:=iltI this.2
    exact ⟨q,rfl,by simp at q2; omega⟩
  · have := List.all_eq_true.1 h3 _ (List.getElem_mem hi)
    simp only [Bool.and_eq_true] at this
    exact ⟨ileI this.1,ileI this.2⟩
theorem dep_one (l:List Work) (n:Nat) (i:Int):depB l (n+1) i=List.all (List.getD l (Int.toNat i) d_work).wa (depB l n):=rfl
theorem dep_up (l:List Work):∀ (n:Nat) (i:Int),depB l n i=true→depB l (n+1) i=true:=by
  intro n
  induction n with
  | zero=>intro i h; cases h
  | succ n ih =>
    intro i h
    rw [dep_one] at h ⊢
    exact List.all_eq_true.2 fun a ha=>ih a (List.all_eq_true.1 h a ha)
theorem dep_le (l:List Work) {n m:Nat} (hnm:n≤m) {i:Int} (h:depB l n i=true):depB l m i=true:=by
  induction hnm with
  | refl=>exact h
  | step _ ih=>exact dep_up l _ i ih
theorem foldl_same {α β:Type} (f g:β→α→β):∀ (xs:List α) (b:β),(∀ b,∀ a∈xs,f b a=g b a)→List.foldl f b xs=List.foldl g b xs:=by
  intro xs
  induction xs with
  | nil=>intro b _; rfl
  | cons x xs ih =>
    intro b h
    show List.foldl f (f b x) xs=List.foldl g (g b x) xs
    rw [h b x (List.mem_cons_self ..)]
    exact ih _ fun b a ha=>h b a (List.mem_cons_of_mem _ ha)
theorem end_one (l:List Work) (n:Nat) (i:Int):endF l (n+1) i=List.foldl (fun m a=>mx m (endF l n a)) 0 (List.getD l (Int.toNat i) d_work).wa+(List.getD l (Int.toNat i) d_work).wh:=rfl
theorem end_up (l:List Work):∀ (n:Nat) (i:Int),depB l n i=true→endF l (n+1) i=endF l n i:=by
  intro n
  induction n with
  | zero=>intro i h; cases h
  | succ n ih =>
    intro i h
    rw [dep_one] at h
    rw [end_one l (n+1),end_one l n]
    congr 1
    exact foldl_same _ _ _ _ fun b a ha=>by rw [ih a (List.all_eq_true.1 h a ha)]
theorem end_le (l:List Work) {n m:Nat} (hnm:n≤m) {i:Int} (h:depB l n i=true):endF l m i=endF l n i:=by
  induction hnm with
  | refl=>rfl
  | step hk ih=>rw [end_up l _ i (dep_le l hk h),ih]
theorem end_E {l:List Work} {n:Nat} (hn:n≤200) {i:Int} (h:depB l n i=true):endF l n i=endE l i:=(end_le l hn h).symm
theorem mx_ge (a b:Int):a≤mx a b∧b≤mx a b:=by
  unfold mx
  by_cases h:a < b
  · rw [iltT h,cond_true]; omega
  · rw [iltF h,cond_false]; omega
theorem mx_le {a b m:Int} (ha:a≤m) (hb:b≤m):mx a b≤m:=by
  unfold mx
  cases ilt a b
  · exact ha
  · exact hb
theorem fold_le {α:Type} (f:α→Int) {m:Int}:∀ (xs:List α) (b:Int),b≤m→(∀ a∈xs,f a≤m)→List.foldl (fun s a=>mx s (f a)) b xs≤m:=by
  intro xs
  induction xs with
  | nil=>intro b h _; exact h
  | cons x xs ih=>intro b hb h; exact ih _ (mx_le hb (h x (List.mem_cons_self ..))) fun a ha=>h a (List.mem_cons_of_mem _ ha)
theorem fold_ge {α:Type} (f:α→Int):∀ (xs:List α) (b:Int),b≤List.foldl (fun s a=>mx s (f a)) b xs∧∀ a∈xs,f a≤List.foldl (fun s a=>mx s (f a)) b xs:=by
  intro xs
  induction xs with
  | nil=>intro b; exact ⟨Int.le_refl _,fun a ha=>by cases ha⟩
  | cons x xs ih =>
    intro b
    obtain ⟨h1,h2⟩:=ih (mx b (f x))
    obtain ⟨g1,g2⟩:=mx_ge b (f x)
    refine ⟨Int.le_trans g1 h1,fun a ha => ?_⟩
    rcases List.mem_cons.1 ha with rfl | ha
    · exact Int.le_trans g2 h1
    · exact h2 a ha
theorem end_bd {l:List Work} (hE:EE l):∀ (n i:Nat),i < l.length→0≤endF l n (i:Int)∧endF l n (i:Int)≤(n:Int) * 1000:=by
  intro n
  induction n with
  | zero=>intro i _; exact ⟨Int.le_refl _,Int.le_refl _⟩
  | succ n ih =>
    intro i hi
    rw [end_one,toNat_nat,getD_lt hi]
    obtain ⟨h1,h2⟩:=hE.wh i hi
    have q1:=(fold_ge (endF l n) l[i].wa 0).1
    have q2:=fold_le (endF l n) (m:=(n:Int) * 1000) l[i].wa 0 (by omega) fun a ha=>by
      obtain ⟨q,rfl,hq⟩:=(hE.wa i hi).2 a ha
      exact (ih q hq).2
    omega
theorem E_bd {l:List Work} (hE:EE l) {i:Nat} (hi:i < l.length):1≤endE l (i:Int)∧endE l (i:Int)≤200000:=by
  obtain ⟨N,hN⟩:∃ N:Nat,N=199:=⟨_,rfl⟩
  have e:endE l (i:Int)=endF l (N+1) (i:Int):=by rw [hN]; rfl
  have hu:=(end_bd hE (N+1) i hi).2
  rw [e]
  refine ⟨?_,by omega⟩
  rw [end_one,toNat_nat,getD_lt hi]
  have q1:=(fold_ge (endF l N) l[i].wa 0).1
  have:=(hE.wh i hi).1
  omega
theorem E_one {l:List Work} (hE:EE l) {i:Nat} (hi:i < l.length):endE l (i:Int)=List.foldl (fun m a=>mx m (endE l a)) 0 l[i].wa+l[i].wh:=by
  obtain ⟨N,hN⟩:∃ N:Nat,N=199:=⟨_,rfl⟩
  have e:endE l (i:Int)=endF l (N+1) (i:Int):=by rw [hN]; rfl
  rw [e,end_one,toNat_nat,getD_lt hi]
  congr 1
  refine foldl_same _ _ _ _ fun b a ha => ?_
  have hd:=hE.dep i hi
  rw [show (100:Nat)=99+1 from rfl,dep_one,toNat_nat,getD_lt hi] at hd
  have ha':=List.all_eq_true.1 hd a ha
  rw [end_le l (show 99≤N by omega) ha',end_E (by omega) ha']
def OutP (l:List Work) (out:List Int):Prop:=out.length=l.length∧∀ j:Nat,j < l.length→List.getD out j d_int=0∨List.getD out j d_int=endE l (j:Int)
theorem outOk_of {l:List Work} {out:List Int}:outOk l out=true↔OutP l out:=by
  unfold outOk OutP
  rw [Bool.and_eq_true,List.all_eq_true]
  constructor
  · rintro ⟨h1, h2⟩
    refine ⟨Nat.eq_of_beq_eq_true h1,fun j hj => ?_⟩
    have:=h2 j (List.mem_range.2 hj)
    simpa [Bool.or_eq_true] using this
  · rintro ⟨h1, h2⟩
    refine ⟨by rw [h1]; exact Nat.beq_refl _,fun j hj => ?_⟩
    have:=h2 j (List.mem_range.1 hj)
    simpa [Bool.or_eq_true] using this
theorem getD_setI (out:List Int) (i j:Nat) (v:Int) (hi:i < out.length):List.getD (out.set i v) j d_int=if i=j then v else List.getD out j d_int:=by
  rw [List.getD_eq_getElem?_getD,List.getElem?_set]
  by_cases e:i=j
  · subst e
    rw [if_pos rfl,if_pos hi,if_pos rfl]
    rfl
  · rw [if_neg e,if_neg e,List.getD_eq_getElem?_getD]
theorem vis_one (l:List Work) (n:Nat) (i:Int) (out:List Int):visO l (n+1) i out=bif List.getD out (Int.toNat i) d_int == (0:Int) then List.set (List.foldl (fun o a=>visO l n a o) out (List.getD l (Int.toNat i) d_work).wa) (Int.toNat i) (endE l i) else out:=rfl
def VisR (l:List Work) (out out':List Int):Prop:=OutP l out'∧∀ j:Nat,List.getD out j d_int≠0→List.getD out' j d_int=List.getD out j d_int
theorem vis_ok {l : List Work} (hE : EE l) : ∀ (n i : Nat) (out : List Int), i < l.length → depB l n (i : Int) = true → OutP l out → VisR l out (visO l n (i : Int) out) ∧ List.getD (visO l n (i : Int) out) i d_int = endE l (i : Int) := by
  intro n
  induction n with
  | zero=>intro i out hi h; cases h
  | succ n ih =>
    intro i out hi h ho
    rw [vis_one,toNat_nat,getD_lt hi]
    rw [dep_one,toNat_nat,getD_lt hi] at h
    by_cases h0:List.getD out i d_int=0
    · have hb : (List.getD out i d_int == (0 : Int)) = true := beq_iff_eq.2 h0
      rw [hb,cond_true]
      have key:∀ (xs:List Int) (o:List Int),(∀ a∈xs,a∈l[i].wa)→OutP l o→VisR l o (List.foldl (fun o a=>visO l n a o) o xs):=by
        intro xs
        induction xs with
        | nil=>intro o _ h; exact ⟨h,fun _ _=>rfl⟩
        | cons x xs ihx =>
          intro o hx h1
          obtain ⟨q,rfl,hq⟩:=(hE.wa i hi).2 x (hx x (List.mem_cons_self ..))
          obtain ⟨⟨g1,g2⟩,_⟩:=ih q o hq (List.all_eq_true.1 h _ (hx _ (List.mem_cons_self ..))) h1
          obtain ⟨k1,k2⟩:=ihx (visO l n (q:Int) o) (fun a ha=>hx a (List.mem_cons_of_mem _ ha)) g1
          refine ⟨k1,fun j hj => ?_⟩
          show List.getD (List.foldl _ (visO l n (q:Int) o) xs) j d_int=_
          rw [k2 j (by rw [g2 j hj]; exact hj),g2 j hj]
      obtain ⟨k1,k2⟩:=key l[i].wa out (fun a ha=>ha) ho
      have hil:i < (List.foldl (fun o a=>visO l n a o) out l[i].wa).length:=by rw [k1.1]; exact hi
      refine ⟨⟨⟨by rw [List.length_set]; exact k1.1,fun j hj => ?_⟩,fun j hj => ?_⟩,?_⟩
      · rw [getD_setI _ _ _ _ hil]
        by_cases e:i=j
        · subst e; rw [if_pos rfl]; exact .inr rfl
        · rw [if_neg e]; exact k1.2 j hj
      · rw [getD_setI _ _ _ _ hil]
        by_cases e:i=j
        · subst e; exact absurd h0 hj
        · rw [if_neg e]; exact k2 j hj
      · rw [getD_setI _ _ _ _ hil,if_pos rfl]
    · have hb : (List.getD out i d_int == (0 : Int)) = false := beq_eq_false_iff_ne.2 h0
      rw [hb,cond_false]
      refine ⟨⟨ho,fun _ _=>rfl⟩,?_⟩
      rcases ho.2 i hi with e | e
      · exact absurd e h0
      · exact e
theorem visP_of {l:List Work} {n:Nat} {i:Int} {out:List Int} (h:visP l n i out=true):okE l=true∧OutP l out∧∃ q:Nat,i=(q:Int)∧q < l.length∧depB l n (q:Int)=true:=by
  simp only [visP,Bool.and_eq_true] at h
  obtain ⟨h1,h2,h3,h4⟩:=h
  simp only [inb,Bool.and_eq_true] at h3
  obtain ⟨q,rfl⟩:=Int.eq_ofNat_of_zero_le (ileI h3.1)
  have q2:=iltI h3.2
  exact ⟨h1,outOk_of.1 h2,q,rfl,by simp at q2; omega,h4⟩
theorem visP_T {l:List Work} {n q:Nat} {out:List Int} (h1:okE l=true) (h2:OutP l out) (h3:q < l.length) (h4:depB l n (q:Int)=true):visP l n (q:Int) out=true:=by
  simp only [visP,Bool.and_eq_true]
  exact ⟨h1,outOk_of.2 h2,inbT h3,h4⟩
def VisC (n:Nat):Prop:=∀ (i:Int) (l:List Work) (ou:List Int),visP l n i ou=true→MCall Try.prog E 76 [(.int .i64 i),(.ptr 1000000000 0),(.ptr 1000000001 0),(.ptr 1000000002 0)] [(1000000000,(.box 1000000000 [(.ful 1000000003)])),(1000000001,(.box 1000000001 [(.lst .work l)])),(1000000002,(.box 1000000002 [(.fn 76 [] [(.ptr 1000000000 0),(.ptr 1000000001 0),(.ptr 1000000002 0)])])),(1000000003,(.rows .int ou))]
  (.int .i64 (endE l i)) [(1000000000,(.box 1000000000 [(.ful 1000000003)])),(1000000001,(.box 1000000001 [(.lst .work l)])),(1000000002,(.box 1000000002 [(.fn 76 [] [(.ptr 1000000000 0),(.ptr 1000000001 0),(.ptr 1000000002 0)])])),(1000000003,(.rows .int (visO l n i ou)))]
class Bnd where
  n:Nat
  ok:VisC n
section
variable [Bnd]
namespace visitR
theorem spec (i:Int) (l:List Work) (ou:List Int) (h:(visP l Bnd.n i ou)=true):MCall Try.prog E 76 [(.int .i64 i),(.ptr 1000000000 0),(.ptr 1000000001 0),(.ptr 1000000002 0)] [(1000000000,(.box 1000000000 [(.ful 1000000003)])),(1000000001,(.box 1000000001 [(.lst .work l)])),(1000000002,(.box 1000000002 [(.fn 76 [] [(.ptr 1000000000 0),(.ptr 1000000001 0),(.ptr 1000000002 0)])])),(1000000003,(.rows .int ou))] (.int .i64 (endE l i)) [(1000000000,(.box 1000000000 [(.ful 1000000003)])),(1000000001,(.box 1000000001 [(.lst .work l)])),(1000000002,(.box 1000000002 [(.fn 76 [] [(.ptr 1000000000 0),(.ptr 1000000001 0),(.ptr 1000000002 0)])])),(1000000003,(.rows .int (visO l Bnd.n i ou)))]:=Bnd.ok _ _ _ h
noncomputable def sp:MSp U El:=fun args hs k=>match args,hs with
  | [.int .i64 i,.ptr q0 0,.ptr q1 0,.ptr q2 0],[(q3,.box q4 [.ful q5]),(q6,.box q7 [.lst .work l]),(q8,.box q9 [.fn 76 [] [.ptr q10 0,.ptr q11 0,.ptr q12 0]]),(q13,.rows .int ou)]=>chk (Nat.beq q0 1000000000&&(Nat.beq q1 1000000001&&(Nat.beq q2 1000000002&&(Nat.beq q3 1000000000&&(Nat.beq q4 1000000000&&(Nat.beq q5 1000000003&&(Nat.beq q6 1000000001&&(Nat.beq q7 1000000001&&(Nat.beq q8 1000000002&&(Nat.beq q9 1000000002&&(Nat.beq q10 1000000000&&(Nat.beq q11 1000000001&&(Nat.beq q12 1000000002&&(Nat.beq q13 1000000003&&true)))))))))))))) (chk (visP l Bnd.n i ou) (k (.int .i64 (endE l i)) [(1000000000,(.box 1000000000 [(.ful 1000000003)])),(1000000001,(.box 1000000001 [(.lst .work l)])),(1000000002,(.box 1000000002 [(.fn 76 [] [(.ptr 1000000000 0),(.ptr 1000000001 0),(.ptr 1000000002 0)])])),(1000000003,(.rows .int (visO l Bnd.n i ou)))]))
  | _,_=>none
theorem spOk:MSpOk Try.prog E 76 sp:=⟨Try.call76,fun args hs k r h=>by
  unfold sp at h
  split at h
  · obtain ⟨hq, hA⟩ := chk_some h
    clear h
    simp only [Bool.and_eq_true] at hq
    obtain ⟨e0,e1,e2,e3,e4,e5,e6,e7,e8,e9,e10,e11,e12,e13,_⟩:=hq
    cases Nat.eq_of_beq_eq_true e0
    cases Nat.eq_of_beq_eq_true e1
    cases Nat.eq_of_beq_eq_true e2
    cases Nat.eq_of_beq_eq_true e3
    cases Nat.eq_of_beq_eq_true e4
    cases Nat.eq_of_beq_eq_true e5
    cases Nat.eq_of_beq_eq_true e6
    cases Nat.eq_of_beq_eq_true e7
    cases Nat.eq_of_beq_eq_true e8
    cases Nat.eq_of_beq_eq_true e9
    cases Nat.eq_of_beq_eq_true e10
    cases Nat.eq_of_beq_eq_true e11
    cases Nat.eq_of_beq_eq_true e12
    cases Nat.eq_of_beq_eq_true e13
    obtain ⟨h1,hB⟩:=chk_some hA
    exact ⟨_,_,spec _ _ _ h1,hB⟩
  · cases h⟩
theorem spDet:∀ args hs,∃ oo:Option (AV U El×Heap U El),∀ k,sp args hs k=oo.bind fun p=>k p.1 p.2:=fun args hs=>by
  unfold sp
  split
  · exact det_chkM (det_chkM ⟨some (_,_),fun _=>rfl⟩)
  · exact ⟨none,fun _=>rfl⟩
end visitR
noncomputable def outV (v:Int) (l:List Work) (o:List Int):R:=some ((.int .i64 v),[(1000000000,(.box 1000000000 [(.ful 1000000003)])),(1000000001,(.box 1000000001 [(.lst .work l)])),(1000000002,(.box 1000000002 [(.fn 76 [] [(.ptr 1000000000 0),(.ptr 1000000001 0),(.ptr 1000000002 0)])])),(1000000003,(.rows .int o))])
namespace visit
noncomputable def bd:Code:=(Try.f76.body).getD .skip
noncomputable def X:Ctx U El:=⟨E,tds,zeros,eqs,specOf [],100000,44,dspecOf [],mspecOf [(76,(mcSp visitR.sp))]⟩
noncomputable def nmR:Norm U:=⟨[],[5],[1000000000,1000000001,1000000002,1000000003],[],[(1000000000,0,.int,1000000003)],[],[]⟩
noncomputable def RR:Kont U El:=fun st=>normK nmR st (retM [5])
noncomputable def nm1:Norm U:=⟨[],[0,1],[1000000000,1000000001,1000000002,1000000003],[],[(1000000000,0,.int,1000000003)],[],[(1000000001,0,.work)]⟩
noncomputable def nm2:Norm U:=⟨[],[0,1,2,6],[1000000000,1000000001,1000000002,1000000003],[],[(1000000000,0,.int,1000000003)],[],[(1000000001,0,.work)]⟩
noncomputable def nm3:Norm U:=⟨[],[0,1,2,3,6,18,19,20],[1000000000,1000000001,1000000002,1000000003],[],[(1000000000,0,.int,1000000003)],[],[(1000000001,0,.work)]⟩
abbrev Y1:=Int→(List Int)→(List Work)→R
abbrev Y2:=Int→Int→(List Int)→(List Work)→R
abbrev Y3:=Int→Int→(List Int)→Int→Int→(List Int)→(List Work)→R
noncomputable def fr0 (i:Int) (l:List Work) (ou:List Int):St U El:=⟨[(0,(.int .i64 i)),(1,(.ptr 1000000000 0)),(2,(.ptr 1000000001 0)),(3,(.ptr 1000000002 0))],[(1000000000,(.box 1000000000 [(.ful 1000000003)])),(1000000001,(.box 1000000001 [(.lst .work l)])),(1000000002,(.box 1000000002 [(.fn 76 [] [(.ptr 1000000000 0),(.ptr 1000000001 0),(.ptr 1000000002 0)])])),(1000000003,(.rows .int ou))]⟩
noncomputable def fr1 (i0:Int) (aA:List Int) (bA:List Work):St U El:=⟨[(0,(.int .i64 i0)),(1,(.ptr 1000000000 0))],[(1000000000,(.box 1000000000 [(.ful 1000000003)])),(1000000001,(.box 1000000001 [(.lst .work bA)])),(1000000002,(.box 1000000002 [(.fn 76 [] [(.ptr 1000000000 0),(.ptr 1000000001 0),(.ptr 1000000002 0)])])),(1000000003,(.rows .int aA))]⟩
noncomputable def fr2 (i0:Int) (cA:Int) (aA:List Int) (bA:List Work):St U El:=⟨[(0,(.int .i64 i0)),(1,(.ptr 1000000000 0)),(2,(.ptr 1000000001 0)),(6,(.int .i64 cA))],[(1000000000,(.box 1000000000 [(.ful 1000000003)])),(1000000001,(.box 1000000001 [(.lst .work bA)])),(1000000002,(.box 1000000002 [(.fn 76 [] [(.ptr 1000000000 0),(.ptr 1000000001 0),(.ptr 1000000002 0)])])),(1000000003,(.rows .int aA))]⟩
noncomputable def fr3 (i0:Int) (cA:Int) (gA:List Int) (kA:Int) (fA:Int) (aA:List Int) (bA:List Work):St U El:=⟨[(0,(.int .i64 i0)),(1,(.ptr 1000000000 0)),(2,(.ptr 1000000001 0)),(3,(.ptr 1000000002 0)),(6,(.int .i64 cA)),(18,(.lst .int gA)),(19,(.int .i64 kA)),(20,(.int .i64 fA))],[(1000000000,(.box 1000000000 [(.ful 1000000003)])),(1000000001,(.box 1000000001 [(.lst .work bA)])),(1000000002,(.box 1000000002 [(.fn 76 [] [(.ptr 1000000000 0),(.ptr 1000000001 0),(.ptr 1000000002 0)])])),(1000000003,(.rows .int aA))]⟩
noncomputable def sh0 (i:Int) (l:List Work) (ou:List Int) (k1:Y1) (k3:Y3):R :=
  chk (inb i (List.length ou)) (chk (nlt (Int.toNat i) (List.length ou)) (condB ((List.getD ou (Int.toNat i) d_int) == (0:Int)) (chk (inb i (List.length l)) (k3 i (0:Int) ((List.getD l (Int.toNat i) d_work).wa) (Int.ofNat (List.length ((List.getD l (Int.toNat i) d_work).wa))) (0:Int) ou l)) (k1 i ou l)))
noncomputable def sh1 (i0:Int) (aA:List Int) (bA:List Work):R :=
  chk (inb i0 (List.length aA)) (chk (nlt (Int.toNat i0) (List.length aA)) (some ((.int .i64 (List.getD aA (Int.toNat i0) d_int)),[(1000000000,(.box 1000000000 [(.ful 1000000003)])),(1000000001,(.box 1000000001 [(.lst .work bA)])),(1000000002,(.box 1000000002 [(.fn 76 [] [(.ptr 1000000000 0),(.ptr 1000000001 0),(.ptr 1000000002 0)])])),(1000000003,(.rows .int aA))])))
noncomputable def sh2 (i0:Int) (cA:Int) (aA:List Int) (bA:List Work) (k1:Y1):R :=
  chk (inb i0 (List.length bA)) (chk (inb i0 (List.length aA)) (chk (nlt (Int.toNat i0) (List.length aA)&&true) (k1 i0 (List.set aA (Int.toNat i0) (IntKind.wrap .i64 (cA+(List.getD bA (Int.toNat i0) d_work).wh))) bA)))
noncomputable def sh3 (i0:Int) (cA:Int) (gA:List Int) (kA:Int) (fA:Int) (aA:List Int) (bA:List Work) (k2:Y2) (k3:Y3):R :=
  condB (ilt fA kA) (chk (inb fA (List.length gA)) (chk (visP bA Bnd.n (List.getD gA (Int.toNat fA) d_int) aA) (k3 i0 (bif ilt cA (endE bA (List.getD gA (Int.toNat fA) d_int)) then (endE bA (List.getD gA (Int.toNat fA) d_int)) else cA) gA kA (IntKind.wrap .i64 (fA+(1:Int))) (visO bA Bnd.n (List.getD gA (Int.toNat fA) d_int) aA) bA))) (k2 i0 cA aA bA)
noncomputable def it3 (Kb2:Kont U El) (n:Nat):Kont U El:=iter nm3 (fun st' K'=>exec X (cdp [1,0,1,0,1,0,1,0,0] bd) .d st' K' (Eblk 0 (cutK nm2 Kb2) (fun _ _=>none)) RR) n
noncomputable def ct1:Kont U El:=fun st=>exec X (cdp [1,1] bd) .d st RR (fun _ _=>none) RR
noncomputable def ct2 (Kb1:Kont U El):Kont U El:=fun st=>exec X (cdp [1,0,1,0,1,1] bd) (.region [(10,1000000003)]) st (cutK nm1 Kb1) (fun _ _=>none) RR
theorem P0 (i l ou):exec X (cdp [] bd) (.seq none .d (.seq (some nm1) (.seq none .d (.cond (.seq none .d (.seq (some nm2) (.seq none .d (.block (.loop nm3 .d))) (.region [(10,1000000003)]))) .d)) .d)) (fr0 i l ou) RR (fun _ _=>none) RR=sh0 i l ou (fun y0 y1 y2=>(hid ct1) (fr1 y0 y1 y2)) (fun y0 y1 y2 y3 y4 y5 y6=>(hid (it3 (hid (ct2 (hid ct1))) 100000)) (fr3 y0 y1 y2 y3 y4 y5 y6)):=by kernel_rfl
theorem P1 (i0 aA bA):ct1 (fr1 i0 aA bA)=sh1 i0 aA bA:=by kernel_rfl
theorem P2 (i0 cA aA bA) (Kb1:Kont U El):ct2 Kb1 (fr2 i0 cA aA bA)=sh2 i0 cA aA bA (fun y0 y1 y2=>Kb1 (fr1 y0 y1 y2)):=by kernel_rfl
theorem P3 (i0 cA gA kA fA aA bA) (Kb2 Kb3:Kont U El):exec X (cdp [1,0,1,0,1,0,1,0,0] bd) .d (fr3 i0 cA gA kA fA aA bA) (cutK nm3 Kb3) (Eblk 0 (cutK nm2 Kb2) (fun _ _=>none)) RR=sh3 i0 cA gA kA fA aA bA (fun y0 y1 y2 y3=>Kb2 (fr2 y0 y1 y2 y3)) (fun y0 y1 y2 y3 y4 y5 y6=>Kb3 (fr3 y0 y1 y2 y3 y4 y5 y6)):=by kernel_rfl
noncomputable def f1 (i0:Int) (aA:List Int) (bA:List Work):R:=sh1 i0 aA bA
noncomputable def f2 (i0:Int) (cA:Int) (aA:List Int) (bA:List Work):R:=sh2 i0 cA aA bA f1
noncomputable def f3:Nat→Y3
  | 0=>fun _ _ _ _ _ _ _=>none
  | n+1=>fun i0 cA gA kA fA aA bA=>sh3 i0 cA gA kA fA aA bA f2 (f3 n)
noncomputable def f0 (i:Int) (l:List Work) (ou:List Int):R:=sh0 i l ou f1 (f3 100000)
theorem T1 (i0 aA bA):(hid ct1) (fr1 i0 aA bA)=f1 i0 aA bA:=by
  refine (congrFun (hid_eq _) _).trans <| (P1 i0 aA bA).trans ?_
  show _=sh1 i0 aA bA
  rfl
theorem T2 (i0 cA aA bA):(hid (ct2 (hid ct1))) (fr2 i0 cA aA bA)=f2 i0 cA aA bA:=by
  refine (congrFun (hid_eq _) _).trans <| (P2 i0 cA aA bA (hid ct1)).trans ?_
  show _=sh2 i0 cA aA bA f1
  simp only [T1]
theorem T3:∀ (n:Nat),∀ i0 cA gA kA fA aA bA,it3 (hid (ct2 (hid ct1))) n (fr3 i0 cA gA kA fA aA bA)=f3 n i0 cA gA kA fA aA bA:=by
  intro n
  induction n with
  | zero=>intros; rfl
  | succ n ih =>
    intro i0 cA gA kA fA aA bA
    refine (P3 i0 cA gA kA fA aA bA (hid (ct2 (hid ct1))) (it3 (hid (ct2 (hid ct1))) n)).trans ?_
    show _=sh3 i0 cA gA kA fA aA bA f2 (f3 n)
    simp only [T2,ih]
theorem H3 (i0 cA gA kA fA aA bA):hid (it3 (hid (ct2 (hid ct1))) 100000) (fr3 i0 cA gA kA fA aA bA)=f3 100000 i0 cA gA kA fA aA bA:=(congrFun (hid_eq _) _).trans (T3 100000 i0 cA gA kA fA aA bA)
theorem T0 (i l ou):exec X bd (.seq none .d (.seq (some nm1) (.seq none .d (.cond (.seq none .d (.seq (some nm2) (.seq none .d (.block (.loop nm3 .d))) (.region [(10,1000000003)]))) .d)) .d)) (fr0 i l ou) RR (fun _ _=>none) RR=f0 i l ou:=by
  refine (P0 i l ou).trans ?_
  show _=sh0 i l ou f1 (f3 100000)
  simp only [T1,H3]
theorem run (i l ou):runM X bd (.seq none .d (.seq (some nm1) (.seq none .d (.cond (.seq none .d (.seq (some nm2) (.seq none .d (.block (.loop nm3 .d))) (.region [(10,1000000003)]))) .d)) .d)) nmR [5] [(1000000000,(.box 1000000000 [(.ful 1000000003)])),(1000000001,(.box 1000000001 [(.lst .work l)])),(1000000002,(.box 1000000002 [(.fn 76 [] [(.ptr 1000000000 0),(.ptr 1000000001 0),(.ptr 1000000002 0)])])),(1000000003,(.rows .int ou))] [(.int .i64 i),(.ptr 1000000000 0),(.ptr 1000000001 0),(.ptr 1000000002 0)]=f0 i l ou:=T0 i l ou
theorem loop (l:List Work) (hk:okE l=true) (i:Nat) (hi:i < l.length) (hd:∀ a∈l[i].wa,depB l Bnd.n a=true):∀ (n j:Nat) (first:Int) (o:List Int),l[i].wa.length < n+j→j≤l[i].wa.length→OutP l o →
    f3 n (i:Int) first l[i].wa (Int.ofNat l[i].wa.length) (j:Int) o l=f2 (i:Int) (List.foldl (fun m a=>mx m (endE l a)) first (l[i].wa.drop j)) (List.foldl (fun o a=>visO l Bnd.n a o) o (l[i].wa.drop j)) l:=by
  have hE:=okE_of hk
  intro n
  induction n with
  | zero=>intro j first o h1 h2; omega
  | succ n ih =>
    intro j first o h1 h2 ho
    show sh3 (i:Int) first l[i].wa (Int.ofNat l[i].wa.length) (j:Int) o l f2 (f3 n)=_
    unfold sh3
    have hwa:=(hE.wa i hi).1
    by_cases hj:j < l[i].wa.length
    · obtain ⟨q, hq, hql⟩ := (hE.wa i hi).2 _ (List.getElem_mem hj)
      have hdq:=hd _ (List.getElem_mem hj)
      rw [drop_lt hj,List.foldl_cons,List.foldl_cons]
      rw [iltT (by simp; omega),inbT hj,toNat_nat,getD_lt hj]
      rw [hq] at hdq ⊢
      obtain ⟨⟨g1,_⟩,_⟩:=vis_ok hE Bnd.n q o hql hdq ho
      rw [visP_T hk ho hql hdq,wrapS j (by omega),condT,chkT,chkT]
      exact ih (j+1) _ _ (by omega) hj g1
    · have : j = l[i].wa.length := by omega
      subst this
      rw [iltF (by simp),List.drop_length,condF]
      rfl
theorem f0_eq (i:Int) (l:List Work) (ou:List Int) (h:visP l (Nat.succ Bnd.n) i ou=true):f0 i l ou=outV (endE l i) l (visO l (Nat.succ Bnd.n) i ou):=by
  obtain ⟨hk,ho,q,rfl,hq,hd⟩:=visP_of h
  have hE:=okE_of hk
  have hqo:q < ou.length:=by rw [ho.1]; exact hq
  obtain ⟨⟨g1,g2⟩,g3⟩:=vis_ok hE (Nat.succ Bnd.n) q ou hq hd ho
  rw [Nat.succ_eq_add_one] at *
  show sh0 (q:Int) l ou f1 (f3 100000)=_
  unfold sh0
  rw [vis_one,toNat_nat,getD_lt hq] at g1 g2 g3 ⊢
  rw [inbT hqo,nltT hqo,inbT hq,chkT,chkT,chkT]
  by_cases h0:List.getD ou q d_int=0
  · have hb : (List.getD ou q d_int == (0 : Int)) = true := beq_iff_eq.2 h0
    rw [hb] at g1 g3 ⊢
    rw [condT,cond_true]
    rw [cond_true] at g1 g3
    have hd2:=hd
    rw [dep_one,toNat_nat,getD_lt hq] at hd2
    refine (loop l hk q hq (List.all_eq_true.1 hd2) 100000 0 0 ou (by have:=(hE.wa q hq).1; omega) (by omega) ho).trans ?_
    rw [List.drop_zero]
    show sh2 (q:Int) _ _ l f1=_
    unfold sh2
    have hlen:q < (List.foldl (fun o a=>visO l Bnd.n a o) ou l[q].wa).length:=by
      have:=g1.1
      rw [List.length_set] at this
      omega
    have hb:=E_bd hE hq
    have h1:=E_one hE hq
    rw [inbT hq,inbT hlen,toNat_nat,getD_lt hq,nltT hlen,← h1,wrapI (by omega) (by omega)]
    show sh1 (q:Int) _ l=_
    unfold sh1
    rw [inbT (by rw [List.length_set]; exact hlen),toNat_nat,nltT (by rw [List.length_set]; exact hlen),g3]
    rfl
  · have hb : (List.getD ou q d_int == (0 : Int)) = false := beq_eq_false_iff_ne.2 h0
    rw [hb] at g1 g3 ⊢
    rw [condF,cond_false]
    rw [cond_false] at g3
    show sh1 (q:Int) ou l=_
    unfold sh1
    rw [inbT hqo,toNat_nat,nltT hqo,g3]
    rfl
theorem ok:CtxOk Try.prog X:=ctxOk tab spN dpN
theorem okM:MOk Try.prog X:=mspecOf_ok _ (mpC (mcSp_ok ok visitR.spOk) mpN)
theorem spec (i:Int) (l:List Work) (ou:List Int) (h:(visP l (Nat.succ Bnd.n) i ou)=true):MCall Try.prog E 76 [(.int .i64 i),(.ptr 1000000000 0),(.ptr 1000000001 0),(.ptr 1000000002 0)] [(1000000000,(.box 1000000000 [(.ful 1000000003)])),(1000000001,(.box 1000000001 [(.lst .work l)])),(1000000002,(.box 1000000002 [(.fn 76 [] [(.ptr 1000000000 0),(.ptr 1000000001 0),(.ptr 1000000002 0)])])),(1000000003,(.rows .int ou))] (.int .i64 (endE l i)) [(1000000000,(.box 1000000000 [(.ful 1000000003)])),(1000000001,(.box 1000000001 [(.lst .work l)])),(1000000002,(.box 1000000002 [(.fn 76 [] [(.ptr 1000000000 0),(.ptr 1000000001 0),(.ptr 1000000002 0)])])),(1000000003,(.rows .int (visO l (Nat.succ Bnd.n) i ou)))] :=
  runM_sound ok okM Try.func76 (by kernel_rfl) (by kernel_rfl) (by kernel_rfl) (by show 4≤44; decide) ((run i l ou).trans (f0_eq i l ou h))
noncomputable def sp:MSp U El:=fun args hs k=>match args,hs with
  | [.int .i64 i,.ptr q0 0,.ptr q1 0,.ptr q2 0],[(q3,.box q4 [.ful q5]),(q6,.box q7 [.lst .work l]),(q8,.box q9 [.fn 76 [] [.ptr q10 0,.ptr q11 0,.ptr q12 0]]),(q13,.rows .int ou)]=>chk (Nat.beq q0 1000000000&&(Nat.beq q1 1000000001&&(Nat.beq q2 1000000002&&(Nat.beq q3 1000000000&&(Nat.beq q4 1000000000&&(Nat.beq q5 1000000003&&(Nat.beq q6 1000000001&&(Nat.beq q7 1000000001&&(Nat.beq q8 1000000002&&(Nat.beq q9 1000000002&&(Nat.beq q10 1000000000&&(Nat.beq q11 1000000001&&(Nat.beq q12 1000000002&&(Nat.beq q13 1000000003&&true)))))))))))))) (chk (visP l (Nat.succ Bnd.n) i ou) (k (.int .i64 (endE l i)) [(1000000000,(.box 1000000000 [(.ful 1000000003)])),(1000000001,(.box 1000000001 [(.lst .work l)])),(1000000002,(.box 1000000002 [(.fn 76 [] [(.ptr 1000000000 0),(.ptr 1000000001 0),(.ptr 1000000002 0)])])),(1000000003,(.rows .int (visO l (Nat.succ Bnd.n) i ou)))]))
  | _,_=>none
theorem spOk:MSpOk Try.prog E 76 sp:=⟨Try.call76,fun args hs k r h=>by
  unfold sp at h
  split at h
  · obtain ⟨hq, hA⟩ := chk_some h
    clear h
    simp only [Bool.and_eq_true] at hq
    obtain ⟨e0,e1,e2,e3,e4,e5,e6,e7,e8,e9,e10,e11,e12,e13,_⟩:=hq
    cases Nat.eq_of_beq_eq_true e0
    cases Nat.eq_of_beq_eq_true e1
    cases Nat.eq_of_beq_eq_true e2
    cases Nat.eq_of_beq_eq_true e3
    cases Nat.eq_of_beq_eq_true e4
    cases Nat.eq_of_beq_eq_true e5
    cases Nat.eq_of_beq_eq_true e6
    cases Nat.eq_of_beq_eq_true e7
    cases Nat.eq_of_beq_eq_true e8
    cases Nat.eq_of_beq_eq_true e9
    cases Nat.eq_of_beq_eq_true e10
    cases Nat.eq_of_beq_eq_true e11
    cases Nat.eq_of_beq_eq_true e12
    cases Nat.eq_of_beq_eq_true e13
    obtain ⟨h1,hB⟩:=chk_some hA
    exact ⟨_,_,spec _ _ _ h1,hB⟩
  · cases h⟩
theorem spDet:∀ args hs,∃ oo:Option (AV U El×Heap U El),∀ k,sp args hs k=oo.bind fun p=>k p.1 p.2:=fun args hs=>by
  unfold sp
  split
  · exact det_chkM (det_chkM ⟨some (_,_),fun _=>rfl⟩)
  · exact ⟨none,fun _=>rfl⟩
end visit
end
theorem visAll:∀ n,VisC n
  | 0 => fun i l ou h => by
    obtain ⟨_,_,q,_,_,hd⟩:=visP_of h
    cases hd
  | n+1=>@visit.spec ⟨n,visAll n⟩
namespace visitF
theorem spec (i:Int) (l:List Work) (ou:List Int) (h:(visP l 200 i ou)=true):MCall Try.prog E 76 [(.int .i64 i),(.ptr 1000000000 0),(.ptr 1000000001 0),(.ptr 1000000002 0)] [(1000000000,(.box 1000000000 [(.ful 1000000003)])),(1000000001,(.box 1000000001 [(.lst .work l)])),(1000000002,(.box 1000000002 [(.fn 76 [] [(.ptr 1000000000 0),(.ptr 1000000001 0),(.ptr 1000000002 0)])])),(1000000003,(.rows .int ou))] (.int .i64 (endE l i)) [(1000000000,(.box 1000000000 [(.ful 1000000003)])),(1000000001,(.box 1000000001 [(.lst .work l)])),(1000000002,(.box 1000000002 [(.fn 76 [] [(.ptr 1000000000 0),(.ptr 1000000001 0),(.ptr 1000000002 0)])])),(1000000003,(.rows .int (visO l 200 i ou)))]:=visAll 200 _ _ _ h
noncomputable def sp:MSp U El:=fun args hs k=>match args,hs with
  | [.int .i64 i,.ptr q0 0,.ptr q1 0,.ptr q2 0],[(q3,.box q4 [.ful q5]),(q6,.box q7 [.lst .work l]),(q8,.box q9 [.fn 76 [] [.ptr q10 0,.ptr q11 0,.ptr q12 0]]),(q13,.rows .int ou)]=>chk (Nat.beq q0 1000000000&&(Nat.beq q1 1000000001&&(Nat.beq q2 1000000002&&(Nat.beq q3 1000000000&&(Nat.beq q4 1000000000&&(Nat.beq q5 1000000003&&(Nat.beq q6 1000000001&&(Nat.beq q7 1000000001&&(Nat.beq q8 1000000002&&(Nat.beq q9 1000000002&&(Nat.beq q10 1000000000&&(Nat.beq q11 1000000001&&(Nat.beq q12 1000000002&&(Nat.beq q13 1000000003&&true)))))))))))))) (chk (visP l 200 i ou) (k (.int .i64 (endE l i)) [(1000000000,(.box 1000000000 [(.ful 1000000003)])),(1000000001,(.box 1000000001 [(.lst .work l)])),(1000000002,(.box 1000000002 [(.fn 76 [] [(.ptr 1000000000 0),(.ptr 1000000001 0),(.ptr 1000000002 0)])])),(1000000003,(.rows .int (visO l 200 i ou)))]))
  | _,_=>none
theorem spOk:MSpOk Try.prog E 76 sp:=⟨Try.call76,fun args hs k r h=>by
  unfold sp at h
  split at h
  · obtain ⟨hq, hA⟩ := chk_some h
    clear h
    simp only [Bool.and_eq_true] at hq
    obtain ⟨e0,e1,e2,e3,e4,e5,e6,e7,e8,e9,e10,e11,e12,e13,_⟩:=hq
    cases Nat.eq_of_beq_eq_true e0
    cases Nat.eq_of_beq_eq_true e1
    cases Nat.eq_of_beq_eq_true e2
    cases Nat.eq_of_beq_eq_true e3
    cases Nat.eq_of_beq_eq_true e4
    cases Nat.eq_of_beq_eq_true e5
    cases Nat.eq_of_beq_eq_true e6
    cases Nat.eq_of_beq_eq_true e7
    cases Nat.eq_of_beq_eq_true e8
    cases Nat.eq_of_beq_eq_true e9
    cases Nat.eq_of_beq_eq_true e10
    cases Nat.eq_of_beq_eq_true e11
    cases Nat.eq_of_beq_eq_true e12
    cases Nat.eq_of_beq_eq_true e13
    obtain ⟨h1,hB⟩:=chk_some hA
    exact ⟨_,_,spec _ _ _ h1,hB⟩
  · cases h⟩
theorem spDet:∀ args hs,∃ oo:Option (AV U El×Heap U El),∀ k,sp args hs k=oo.bind fun p=>k p.1 p.2:=fun args hs=>by
  unfold sp
  split
  · exact det_chkM (det_chkM ⟨some (_,_),fun _=>rfl⟩)
  · exact ⟨none,fun _=>rfl⟩
end visitF
namespace earliest
noncomputable def bd:Code:=(Try.f53.body).getD .skip
noncomputable def X:Ctx U El:=⟨E,tds,zeros,eqs,specOf [],100000,20,dspecOf [],mspecOf [(76,(mcSp visitF.sp))]⟩
noncomputable def nmR:Norm U:=⟨[],[2],[],[(2,.int)],[],[],[]⟩
noncomputable def RR:Kont U El:=fun st=>normK nmR st (retFin [2] [])
noncomputable def nm1:Norm U:=⟨[],[3],[3,500000300],[],[(3,0,.int,500000300)],[],[]⟩
noncomputable def nm2:Norm U:=⟨[],[3,4,11,12],[1,3,4,500000300],[],[(3,0,.int,500000300)],[],[(1,0,.work)]⟩
abbrev Y1:=(List Int)→R
abbrev Y2:=Int→Int→(List Work)→(List Int)→R
noncomputable def fr0 (l:List Work):St U El:=⟨[(0,(.lst .work l))],[]⟩
noncomputable def fr1 (dA:List Int):St U El:=⟨[(3,(.ptr 3 0))],[(3,(.box 0 [(.ful 500000300)])),(500000300,(.rows .int dA))]⟩
noncomputable def fr2 (jA:Int) (iA:Int) (eA:List Work) (dA:List Int):St U El:=⟨[(3,(.ptr 3 0)),(4,(.ptr 4 0)),(11,(.int .i64 jA)),(12,(.int .i64 iA))],[(1,(.box 0 [(.lst .work eA)])),(3,(.box 0 [(.ful 500000300)])),(4,(.box 0 [(.fn 76 [] [(.ptr 3 0),(.ptr 1 0),(.ptr 4 0)])])),(500000300,(.rows .int dA))]⟩
noncomputable def sh0 (l:List Work) (k2:Y2):R :=
  chk (ile 0 (Int.ofNat (List.length l))&&ile (Int.ofNat (List.length l)) (Int.ofNat (List.length l))&&ile ((Int.ofNat (List.length l)) * 8) 140737488355328) (k2 (Int.ofNat (List.length l)) (0:Int) l (List.replicate (Int.toNat (Int.ofNat (List.length l))) d_int))
noncomputable def sh1 (dA:List Int):R :=
  some ((.lst .int dA),[])
noncomputable def sh2 (jA:Int) (iA:Int) (eA:List Work) (dA:List Int) (k1:Y1) (k2:Y2):R :=
  condB (ilt iA jA) (chk (visP eA 200 iA dA) (k2 jA (IntKind.wrap .i64 (iA+(1:Int))) eA (visO eA 200 iA dA))) (k1 dA)
noncomputable def it2 (Kb1:Kont U El) (n:Nat):Kont U El:=iter nm2 (fun st' K'=>exec X (cdp [1,1,1,1,0,1,0,0] bd) .d st' K' (Eblk 0 (cutK nm1 Kb1) (fun _ _=>none)) RR) n
noncomputable def ct1:Kont U El:=fun st=>exec X (cdp [1,1,1,1,1] bd) .d st RR (fun _ _=>none) RR
theorem P0 (l):exec X (cdp [] bd) (.seq none .d (.seq none .d (.seq none .d (.seq none .d (.seq (some nm1) (.seq none .d (.block (.loop nm2 .d))) .d))))) (fr0 l) RR (fun _ _=>none) RR=sh0 l (fun y0 y1 y2 y3=>(hid (it2 (hid ct1) 100000)) (fr2 y0 y1 y2 y3)):=by kernel_rfl
theorem P1 (dA):ct1 (fr1 dA)=sh1 dA:=by kernel_rfl
theorem P2 (jA iA eA dA) (Kb1 Kb2:Kont U El):exec X (cdp [1,1,1,1,0,1,0,0] bd) .d (fr2 jA iA eA dA) (cutK nm2 Kb2) (Eblk 0 (cutK nm1 Kb1) (fun _ _=>none)) RR=sh2 jA iA eA dA (fun y0=>Kb1 (fr1 y0)) (fun y0 y1 y2 y3=>Kb2 (fr2 y0 y1 y2 y3)):=by kernel_rfl
noncomputable def f1 (dA:List Int):R:=sh1 dA
noncomputable def f2:Nat→Y2
  | 0=>fun _ _ _ _=>none
  | n+1=>fun jA iA eA dA=>sh2 jA iA eA dA f1 (f2 n)
noncomputable def f0 (l:List Work):R:=sh0 l (f2 100000)
theorem T1 (dA):(hid ct1) (fr1 dA)=f1 dA:=by
  refine (congrFun (hid_eq _) _).trans <| (P1 dA).trans ?_
  show _=sh1 dA
  rfl
theorem T2:∀ (n:Nat),∀ jA iA eA dA,it2 (hid ct1) n (fr2 jA iA eA dA)=f2 n jA iA eA dA:=by
  intro n
  induction n with
  | zero=>intros; rfl
  | succ n ih =>
    intro jA iA eA dA
    refine (P2 jA iA eA dA (hid ct1) (it2 (hid ct1) n)).trans ?_
    show _=sh2 jA iA eA dA f1 (f2 n)
    simp only [T1,ih]
theorem H2 (jA iA eA dA):hid (it2 (hid ct1) 100000) (fr2 jA iA eA dA)=f2 100000 jA iA eA dA:=(congrFun (hid_eq _) _).trans (T2 100000 jA iA eA dA)
theorem T0 (l):exec X bd (.seq none .d (.seq none .d (.seq none .d (.seq none .d (.seq (some nm1) (.seq none .d (.block (.loop nm2 .d))) .d))))) (fr0 l) RR (fun _ _=>none) RR=f0 l:=by
  refine (P0 l).trans ?_
  show _=sh0 l (f2 100000)
  simp only [H2]
theorem run (l):runFn X bd (.seq none .d (.seq none .d (.seq none .d (.seq none .d (.seq (some nm1) (.seq none .d (.block (.loop nm2 .d))) .d))))) nmR [2] [] [(.lst .work l)]=f0 l:=T0 l
theorem loop (l : List Work) (hk : okE l = true) : ∀ (n i : Nat) (o : List Int), l.length < n + i → i ≤ l.length → OutP l o → (∀ j, j < i → List.getD o j d_int = endE l (j : Int)) → f2 n (Int.ofNat l.length) (i : Int) l o = some ((.lst .int (endsL l)), []) := by
  have hE:=okE_of hk
  intro n
  induction n with
  | zero=>intro i o h1 h2; omega
  | succ n ih =>
    intro i o h1 h2 ho hd
    show sh2 (Int.ofNat l.length) (i:Int) l o f1 (f2 n)=_
    unfold sh2
    have hn:=hE.n
    by_cases hi:i < l.length
    · have hdep : depB l 200 (i : Int) = true := dep_le l (by omega) (hE.dep i hi)
      obtain ⟨⟨g1,g2⟩,g3⟩:=vis_ok hE 200 i o hi hdep ho
      rw [iltT (by simp; omega),visP_T hk ho hi hdep,wrapS i (by omega),condT,chkT]
      refine ih (i+1) _ (by omega) hi g1 fun j hj => ?_
      by_cases e:j=i
      · subst e; exact g3
      · have hji : j < i := by omega
        have hjl:j < l.length:=by omega
        rw [g2 j (by rw [hd j hji]; have:=E_bd hE hjl; omega),hd j hji]
    · have : i = l.length := by omega
      subst this
      rw [iltF (by simp),condF]
      show sh1 o=_
      unfold sh1
      have:o=endsL l:=by
        refine List.ext_getElem (by rw [ho.1]; simp [endsL]) fun j h1 h2 => ?_
        have:=hd j (by rw [← ho.1]; exact h1)
        rw [getD_lt h1] at this
        rw [this]
        simp [endsL]
      rw [this]
theorem f0_eq (l:List Work) (h:okE l=true):f0 l=some ((.lst .int (endsL l)),[]):=by
  have hE:=okE_of h
  have hn:=hE.n
  show sh0 l (f2 100000)=_
  unfold sh0
  rw [ileT (show (0:Int)≤Int.ofNat l.length by simp),ileT (Int.le_refl (Int.ofNat l.length)),ileT (show Int.ofNat l.length * 8≤140737488355328 by simp; omega)]
  show f2 100000 (Int.ofNat l.length) ((0:Nat):Int) l (List.replicate l.length d_int)=_
  refine loop l h 100000 0 _ (by omega) (by omega) ⟨by simp,fun j hj => .inl ?_⟩ (fun j hj=>by omega)
  rw [getD_lt (by simpa using hj),List.getElem_replicate]
  rfl
theorem ok:CtxOk Try.prog X:=ctxOk tab spN dpN
theorem okM:MOk Try.prog X:=mspecOf_ok _ (mpC (mcSp_ok ok visitF.spOk) mpN)
theorem spec (l:List Work) (h:(okE l)=true):CallSpec Try.prog E 53 [(.lst .work l)] (.lst .int (endsL l)) [] :=
  runFn_sound ok okM Try.call53 Try.func53 (by kernel_rfl) (by kernel_rfl) (by kernel_rfl) (by show 1≤20; decide) (by decide) (by rfl) ((run l).trans (f0_eq l h))
noncomputable def sp:Sp U El:=fun args k=>match args with
  | [.lst .work l]=>chk (okE l) (k (.lst .int (endsL l)) [])
  | _=>none
theorem spOk:SpOk Try.prog E 53 sp where
  det:=fun vs=>by
    unfold sp
    split
    · exact det_c _ _ _
    · exact ⟨none,fun _=>rfl⟩
  ok:=fun vs k r h=>by
    unfold sp at h
    split at h
    · obtain ⟨h1, h2⟩ := chk_some h
      exact ⟨_,_,spec _ h1,h2⟩
    · cases h
end earliest
end Go.Proofs.Ythdklallcljhlaa
