/- The earliest ends of works: a closure that calls itself. -/
import Derived.Test.YthdklallcljhlaaVH
namespace Go.Proofs.Ythdklallcljhlaa
set_option linter.unusedSectionVars false
set_option linter.unusedSimpArgs false
set_option linter.unusedVariables false
set_option maxRecDepth 100000
noncomputable def cu (l:List Work):Nat→Int→Bool
  | 0,_=>false
  | n+1,i=>List.all (List.getD l (Int.toNat i) aa).wa (cu l n)
noncomputable def mx (a b:Int):Int:=bif ilt a b then b else a
noncomputable def fF (l:List Work):Nat→Int→Int
  | 0,_=>0
  | n+1,i=>List.foldl (fun m a=>mx m (fF l n a)) 0 (List.getD l (Int.toNat i) aa).wa+(List.getD l (Int.toNat i) aa).wh
noncomputable def dh (l:List Work) (i:Int):Int:=fF l 200 i
noncomputable def okE (l:List Work):Bool:=okO l&&(nle l.length 100&&(List.all l (fun w=>ile 1 w.wh&&ile w.wh 1000)&&List.all (List.range l.length) (fun i=>cu l 100 (i:Int))))
noncomputable def p5 (l:List Work) (out:List Int):Bool:=Nat.beq out.length l.length&&List.all (List.range l.length) (fun j=>List.getD out j d_int == 0||List.getD out j d_int == dh l (j:Int))
noncomputable def gH (l:List Work) (n:Nat) (i:Int) (out:List Int):Bool:=okE l&&(p5 l out&&(inb i l.length&&cu l n i))
noncomputable def dZ (l:List Work):Nat→Int→List Int→List Int
  | 0,_,out=>out
  | n+1,i,out=>bif List.getD out (Int.toNat i) d_int == (0:Int) then List.set (List.foldl (fun o a=>dZ l n a o) out (List.getD l (Int.toNat i) aa).wa) (Int.toNat i) (dh l i) else out
noncomputable def ec (l:List Work):List Int:=List.map (fun j:Nat=>dh l (j:Int)) (List.range l.length)
structure EE (l:List Work):Prop where
  n:l.length≤100
  wa:∀ (i:Nat) (h:i < l.length),l[i].wa.length≤90000∧∀ a∈l[i].wa,∃ q:Nat,a=(q:Int)∧q < l.length
  wh:∀ (i:Nat) (h:i < l.length),1≤l[i].wh∧l[i].wh≤1000
  dep:∀ (i:Nat),i < l.length→cu l 100 (i:Int)=true
theorem k0 {l:List Work} (h:okE l=true):EE l:=by
  simp only [okE,Bool.and_eq_true] at h
  obtain ⟨h1,h2,h3,h4⟩:=h
  obtain ⟨g1,g2⟩:=cX h1
  refine ⟨cn h2,fun i hi=>⟨(g2 _ (List.getElem_mem hi)).1,fun a ha => ?_⟩,fun i hi => ?_,fun i hi=>List.all_eq_true.1 h4 i (List.mem_range.2 hi)⟩
  · have := (g2 _ (List.getElem_mem hi)).2 a ha
    simp only [inb,Bool.and_eq_true] at this
    obtain ⟨q,rfl⟩:=Int.eq_ofNat_of_zero_le (b7 this.1)
    have q2:=dJ this.2
    exact ⟨q,rfl,by simp at q2; omega⟩
  · have := List.all_eq_true.1 h3 _ (List.getElem_mem hi)
    simp only [Bool.and_eq_true] at this
    exact ⟨b7 this.1,b7 this.2⟩
theorem fC (l:List Work) (n:Nat) (i:Int):cu l (n+1) i=List.all (List.getD l (Int.toNat i) aa).wa (cu l n):=rfl
theorem nh (l:List Work):∀ (n:Nat) (i:Int),cu l n i=true→cu l (n+1) i=true:=by
  intro n
  induction n with
  | zero=>intro i h; cases h
  | succ n ih =>
    intro i h
    rw [fC] at h ⊢
    exact List.all_eq_true.2 fun a ha=>ih a (List.all_eq_true.1 h a ha)
theorem nk (l:List Work) {n m:Nat} (hnm:n≤m) {i:Int} (h:cu l n i=true):cu l m i=true:=by
  induction hnm with
  | refl=>exact h
  | step _ ih=>exact nh l _ i ih
theorem jK {α β:Type} (f g:β→α→β):∀ (xs:List α) (b:β),(∀ b,∀ a∈xs,f b a=g b a)→List.foldl f b xs=List.foldl g b xs:=by
  intro xs
  induction xs with
  | nil=>intro b _; rfl
  | cons x xs ih =>
    intro b h
    show List.foldl f (f b x) xs=List.foldl g (g b x) xs
    rw [h b x (List.mem_cons_self ..)]
    exact ih _ fun b a ha=>h b a (List.mem_cons_of_mem _ ha)
theorem gI (l:List Work) (n:Nat) (i:Int):fF l (n+1) i=List.foldl (fun m a=>mx m (fF l n a)) 0 (List.getD l (Int.toNat i) aa).wa+(List.getD l (Int.toNat i) aa).wh:=rfl
theorem rW (l:List Work):∀ (n:Nat) (i:Int),cu l n i=true→fF l (n+1) i=fF l n i:=by
  intro n
  induction n with
  | zero=>intro i h; cases h
  | succ n ih =>
    intro i h
    rw [fC] at h
    rw [gI l (n+1),gI l n]
    congr 1
    exact jK _ _ _ _ fun b a ha=>by rw [ih a (List.all_eq_true.1 h a ha)]
theorem p6 (l:List Work) {n m:Nat} (hnm:n≤m) {i:Int} (h:cu l n i=true):fF l m i=fF l n i:=by
  induction hnm with
  | refl=>rfl
  | step hk ih=>rw [rW l _ i (nk l hk h),ih]
theorem sC {l:List Work} {n:Nat} (hn:n≤200) {i:Int} (h:cu l n i=true):fF l n i=dh l i:=(p6 l hn h).symm
theorem sD (a b:Int):a≤mx a b∧b≤mx a b:=by
  unfold mx
  by_cases h:a < b
  · rw [bw h,cond_true]; omega
  · rw [bp h,cond_false]; omega
theorem sE {a b m:Int} (ha:a≤m) (hb:b≤m):mx a b≤m:=by
  unfold mx
  cases ilt a b
  · exact ha
  · exact hb
theorem nV {α:Type} (f:α→Int) {m:Int}:∀ (xs:List α) (b:Int),b≤m→(∀ a∈xs,f a≤m)→List.foldl (fun s a=>mx s (f a)) b xs≤m:=by
  intro xs
  induction xs with
  | nil=>intro b h _; exact h
  | cons x xs ih=>intro b hb h; exact ih _ (sE hb (h x (List.mem_cons_self ..))) fun a ha=>h a (List.mem_cons_of_mem _ ha)
theorem iQ {α:Type} (f:α→Int):∀ (xs:List α) (b:Int),b≤List.foldl (fun s a=>mx s (f a)) b xs∧∀ a∈xs,f a≤List.foldl (fun s a=>mx s (f a)) b xs:=by
  intro xs
  induction xs with
  | nil=>intro b; exact ⟨Int.le_refl _,fun a ha=>by cases ha⟩
  | cons x xs ih =>
    intro b
    obtain ⟨h1,h2⟩:=ih (mx b (f x))
    obtain ⟨g1,g2⟩:=sD b (f x)
    refine ⟨Int.le_trans g1 h1,fun a ha => ?_⟩
    rcases List.mem_cons.1 ha with rfl | ha
    · exact Int.le_trans g2 h1
    · exact h2 a ha
theorem rX {l:List Work} (hE:EE l):∀ (n i:Nat),i < l.length→0≤fF l n (i:Int)∧fF l n (i:Int)≤(n:Int) * 1000:=by
  intro n
  induction n with
  | zero=>intro i _; exact ⟨Int.le_refl _,Int.le_refl _⟩
  | succ n ih =>
    intro i hi
    rw [gI,ac,al hi]
    obtain ⟨h1,h2⟩:=hE.wh i hi
    have q1:=(iQ (fF l n) l[i].wa 0).1
    have q2:=nV (fF l n) (m:=(n:Int) * 1000) l[i].wa 0 (by omega) fun a ha=>by
      obtain ⟨q,rfl,hq⟩:=(hE.wa i hi).2 a ha
      exact (ih q hq).2
    omega
theorem sF {l:List Work} (hE:EE l) {i:Nat} (hi:i < l.length):1≤dh l (i:Int)∧dh l (i:Int)≤200000:=by
  obtain ⟨N,hN⟩:∃ N:Nat,N=199:=⟨_,rfl⟩
  have e:dh l (i:Int)=fF l (N+1) (i:Int):=by rw [hN]; rfl
  have hu:=(rX hE (N+1) i hi).2
  rw [e]
  refine ⟨?_,by omega⟩
  rw [gI,ac,al hi]
  have q1:=(iQ (fF l N) l[i].wa 0).1
  have:=(hE.wh i hi).1
  omega
theorem sG {l:List Work} (hE:EE l) {i:Nat} (hi:i < l.length):dh l (i:Int)=List.foldl (fun m a=>mx m (dh l a)) 0 l[i].wa+l[i].wh:=by
  obtain ⟨N,hN⟩:∃ N:Nat,N=199:=⟨_,rfl⟩
  have e:dh l (i:Int)=fF l (N+1) (i:Int):=by rw [hN]; rfl
  rw [e,gI,ac,al hi]
  congr 1
  refine jK _ _ _ _ fun b a ha => ?_
  have hd:=hE.dep i hi
  rw [show (100:Nat)=99+1 from rfl,fC,ac,al hi] at hd
  have ha':=List.all_eq_true.1 hd a ha
  rw [p6 l (show 99≤N by omega) ha',sC (by omega) ha']
def k9 (l:List Work) (out:List Int):Prop:=out.length=l.length∧∀ j:Nat,j < l.length→List.getD out j d_int=0∨List.getD out j d_int=dh l (j:Int)
theorem outOk_of {l:List Work} {out:List Int}:p5 l out=true↔k9 l out:=by
  unfold p5 k9
  rw [Bool.and_eq_true,List.all_eq_true]
  constructor
  · rintro ⟨h1, h2⟩
    refine ⟨Nat.eq_of_beq_eq_true h1,fun j hj => ?_⟩
    have:=h2 j (List.mem_range.2 hj)
    simpa [Bool.or_eq_true] using this
  · rintro ⟨h1, h2⟩
    refine ⟨by rw [h1]; exact Nat.beq_refl _,fun j hj => ?_⟩
    have:=h2 j (List.mem_range.1 hj)
    simpa [Bool.or_eq_true] using this
theorem hY (out:List Int) (i j:Nat) (v:Int) (hi:i < out.length):List.getD (out.set i v) j d_int=if i=j then v else List.getD out j d_int:=by
  rw [List.getD_eq_getElem?_getD,List.getElem?_set]
  by_cases e:i=j
  · subst e
    rw [if_pos rfl,if_pos hi,if_pos rfl]
    rfl
  · rw [if_neg e,if_neg e,List.getD_eq_getElem?_getD]
theorem nW (l:List Work) (n:Nat) (i:Int) (out:List Int):dZ l (n+1) i out=bif List.getD out (Int.toNat i) d_int == (0:Int) then List.set (List.foldl (fun o a=>dZ l n a o) out (List.getD l (Int.toNat i) aa).wa) (Int.toNat i) (dh l i) else out:=rfl
def sH (l:List Work) (out out':List Int):Prop:=k9 l out'∧∀ j:Nat,List.getD out j d_int≠0→List.getD out' j d_int=List.getD out j d_int
theorem nl {l : List Work} (hE : EE l) : ∀ (n i : Nat) (out : List Int), i < l.length → cu l n (i : Int) = true → k9 l out → sH l out (dZ l n (i : Int) out) ∧ List.getD (dZ l n (i : Int) out) i d_int = dh l (i : Int) := by
  intro n
  induction n with
  | zero=>intro i out hi h; cases h
  | succ n ih =>
    intro i out hi h ho
    rw [nW,ac,al hi]
    rw [fC,ac,al hi] at h
    by_cases h0:List.getD out i d_int=0
    · have hb : (List.getD out i d_int == (0 : Int)) = true := beq_iff_eq.2 h0
      rw [hb,cond_true]
      have key:∀ (xs:List Int) (o:List Int),(∀ a∈xs,a∈l[i].wa)→k9 l o→sH l o (List.foldl (fun o a=>dZ l n a o) o xs):=by
        intro xs
        induction xs with
        | nil=>intro o _ h; exact ⟨h,fun _ _=>rfl⟩
        | cons x xs ihx =>
          intro o hx h1
          obtain ⟨q,rfl,hq⟩:=(hE.wa i hi).2 x (hx x (List.mem_cons_self ..))
          obtain ⟨⟨g1,g2⟩,_⟩:=ih q o hq (List.all_eq_true.1 h _ (hx _ (List.mem_cons_self ..))) h1
          obtain ⟨k1,k2⟩:=ihx (dZ l n (q:Int) o) (fun a ha=>hx a (List.mem_cons_of_mem _ ha)) g1
          refine ⟨k1,fun j hj => ?_⟩
          show List.getD (List.foldl _ (dZ l n (q:Int) o) xs) j d_int=_
          rw [k2 j (by rw [g2 j hj]; exact hj),g2 j hj]
      obtain ⟨k1,k2⟩:=key l[i].wa out (fun a ha=>ha) ho
      have hil:i < (List.foldl (fun o a=>dZ l n a o) out l[i].wa).length:=by rw [k1.1]; exact hi
      refine ⟨⟨⟨by rw [List.length_set]; exact k1.1,fun j hj => ?_⟩,fun j hj => ?_⟩,?_⟩
      · rw [hY _ _ _ _ hil]
        by_cases e:i=j
        · subst e; rw [if_pos rfl]; exact .inr rfl
        · rw [if_neg e]; exact k1.2 j hj
      · rw [hY _ _ _ _ hil]
        by_cases e:i=j
        · subst e; exact absurd h0 hj
        · rw [if_neg e]; exact k2 j hj
      · rw [hY _ _ _ _ hil,if_pos rfl]
    · have hb : (List.getD out i d_int == (0 : Int)) = false := beq_eq_false_iff_ne.2 h0
      rw [hb,cond_false]
      refine ⟨⟨ho,fun _ _=>rfl⟩,?_⟩
      rcases ho.2 i hi with e | e
      · exact absurd e h0
      · exact e
theorem nX {l:List Work} {n:Nat} {i:Int} {out:List Int} (h:gH l n i out=true):okE l=true∧k9 l out∧∃ q:Nat,i=(q:Int)∧q < l.length∧cu l n (q:Int)=true:=by
  simp only [gH,Bool.and_eq_true] at h
  obtain ⟨h1,h2,h3,h4⟩:=h
  simp only [inb,Bool.and_eq_true] at h3
  obtain ⟨q,rfl⟩:=Int.eq_ofNat_of_zero_le (b7 h3.1)
  have q2:=dJ h3.2
  exact ⟨h1,outOk_of.1 h2,q,rfl,by simp at q2; omega,h4⟩
theorem p7 {l:List Work} {n q:Nat} {out:List Int} (h1:okE l=true) (h2:k9 l out) (h3:q < l.length) (h4:cu l n (q:Int)=true):gH l n (q:Int) out=true:=by
  simp only [gH,Bool.and_eq_true]
  exact ⟨h1,outOk_of.2 h2,aZ h3,h4⟩
def sI (n:Nat):Prop:=∀ (i:Int) (l:List Work) (ou:List Int),gH l n i ou=true→MCall Try.prog E 76 [(.int .i64 i),(.ptr 1000000000 0),(.ptr 1000000001 0),(.ptr 1000000002 0)] [(1000000000,(.box 1000000000 [(.ful 1000000003)])),(1000000001,(.box 1000000001 [(.lst .work l)])),(1000000002,(.box 1000000002 [(.fn 76 [] [(.ptr 1000000000 0),(.ptr 1000000001 0),(.ptr 1000000002 0)])])),(1000000003,(.rows .int ou))]
  (.int .i64 (dh l i)) [(1000000000,(.box 1000000000 [(.ful 1000000003)])),(1000000001,(.box 1000000001 [(.lst .work l)])),(1000000002,(.box 1000000002 [(.fn 76 [] [(.ptr 1000000000 0),(.ptr 1000000001 0),(.ptr 1000000002 0)])])),(1000000003,(.rows .int (dZ l n i ou)))]
class Bnd where
  n:Nat
  ok:sI n
section
variable [Bnd]
namespace visitR
theorem spec (i:Int) (l:List Work) (ou:List Int) (h:(gH l Bnd.n i ou)=true):MCall Try.prog E 76 [(.int .i64 i),(.ptr 1000000000 0),(.ptr 1000000001 0),(.ptr 1000000002 0)] [(1000000000,(.box 1000000000 [(.ful 1000000003)])),(1000000001,(.box 1000000001 [(.lst .work l)])),(1000000002,(.box 1000000002 [(.fn 76 [] [(.ptr 1000000000 0),(.ptr 1000000001 0),(.ptr 1000000002 0)])])),(1000000003,(.rows .int ou))] (.int .i64 (dh l i)) [(1000000000,(.box 1000000000 [(.ful 1000000003)])),(1000000001,(.box 1000000001 [(.lst .work l)])),(1000000002,(.box 1000000002 [(.fn 76 [] [(.ptr 1000000000 0),(.ptr 1000000001 0),(.ptr 1000000002 0)])])),(1000000003,(.rows .int (dZ l Bnd.n i ou)))]:=Bnd.ok _ _ _ h
noncomputable def sp:MSp U El:=fun args hs k=>match args,hs with
  | [.int .i64 i,.ptr q0 0,.ptr q1 0,.ptr q2 0],[(q3,.box q4 [.ful q5]),(q6,.box q7 [.lst .work l]),(q8,.box q9 [.fn 76 [] [.ptr q10 0,.ptr q11 0,.ptr q12 0]]),(q13,.rows .int ou)]=>chk (Nat.beq q0 1000000000&&(Nat.beq q1 1000000001&&(Nat.beq q2 1000000002&&(Nat.beq q3 1000000000&&(Nat.beq q4 1000000000&&(Nat.beq q5 1000000003&&(Nat.beq q6 1000000001&&(Nat.beq q7 1000000001&&(Nat.beq q8 1000000002&&(Nat.beq q9 1000000002&&(Nat.beq q10 1000000000&&(Nat.beq q11 1000000001&&(Nat.beq q12 1000000002&&(Nat.beq q13 1000000003&&true)))))))))))))) (chk (gH l Bnd.n i ou) (k (.int .i64 (dh l i)) [(1000000000,(.box 1000000000 [(.ful 1000000003)])),(1000000001,(.box 1000000001 [(.lst .work l)])),(1000000002,(.box 1000000002 [(.fn 76 [] [(.ptr 1000000000 0),(.ptr 1000000001 0),(.ptr 1000000002 0)])])),(1000000003,(.rows .int (dZ l Bnd.n i ou)))]))
  | _,_=>none
theorem spOk:cJ Try.prog E 76 sp:=⟨Try.call76,fun args hs k r h=>by
  unfold sp at h
  split at h
  · obtain ⟨hq, hA⟩ := ab h
    clear h
    simp only [Bool.and_eq_true] at hq
    obtain ⟨e0,e1,e2,e3,e4,e5,e6,e7,e8,e9,e10,e11,e12,e13,_⟩:=hq
    cases Nat.eq_of_beq_eq_true e0
    cases Nat.eq_of_beq_eq_true e1
    cases Nat.eq_of_beq_eq_true e2
    cases Nat.eq_of_beq_eq_true e3
    cases Nat.eq_of_beq_eq_true e4
    cases Nat.eq_of_beq_eq_true e5
    cases Nat.eq_of_beq_eq_true e6
    cases Nat.eq_of_beq_eq_true e7
    cases Nat.eq_of_beq_eq_true e8
    cases Nat.eq_of_beq_eq_true e9
    cases Nat.eq_of_beq_eq_true e10
    cases Nat.eq_of_beq_eq_true e11
    cases Nat.eq_of_beq_eq_true e12
    cases Nat.eq_of_beq_eq_true e13
    obtain ⟨h1,hB⟩:=ab hA
    exact ⟨_,_,spec _ _ _ h1,hB⟩
  · cases h⟩
theorem spDet:∀ args hs,∃ oo:Option (AV U El×ar U El),∀ k,sp args hs k=oo.bind fun p=>k p.1 p.2:=fun args hs=>by
  unfold sp
  split
  · exact aO (aO ⟨some (_,_),fun _=>rfl⟩)
  · exact ⟨none,fun _=>rfl⟩
end visitR
noncomputable def sQ (v:Int) (l:List Work) (o:List Int):R:=some ((.int .i64 v),[(1000000000,(.box 1000000000 [(.ful 1000000003)])),(1000000001,(.box 1000000001 [(.lst .work l)])),(1000000002,(.box 1000000002 [(.fn 76 [] [(.ptr 1000000000 0),(.ptr 1000000001 0),(.ptr 1000000002 0)])])),(1000000003,(.rows .int o))])
namespace visit
noncomputable def bd:Code:=(Try.f76.body).getD .skip
noncomputable def X:Ctx U El:=⟨E,tds,zeros,eqs,aG [],100000,44,aD [],cg [(76,(gz visitR.sp))]⟩
noncomputable def nmR:Norm U:=⟨[],[5],[1000000000,1000000001,1000000002,1000000003],[],[(1000000000,0,.int,1000000003)],[],[]⟩
noncomputable def RR:ae U El:=fun st=>aM nmR st (dI [5])
noncomputable def nm1:Norm U:=⟨[],[0,1],[1000000000,1000000001,1000000002,1000000003],[],[(1000000000,0,.int,1000000003)],[],[(1000000001,0,.work)]⟩
noncomputable def nm2:Norm U:=⟨[],[0,1,2,6],[1000000000,1000000001,1000000002,1000000003],[],[(1000000000,0,.int,1000000003)],[],[(1000000001,0,.work)]⟩
noncomputable def nm3:Norm U:=⟨[],[0,1,2,3,6,18,19,20],[1000000000,1000000001,1000000002,1000000003],[],[(1000000000,0,.int,1000000003)],[],[(1000000001,0,.work)]⟩
abbrev Y1:=Int→(List Int)→(List Work)→R
abbrev Y2:=Int→Int→(List Int)→(List Work)→R
abbrev Y3:=Int→Int→(List Int)→Int→Int→(List Int)→(List Work)→R
noncomputable def fr0 (i:Int) (l:List Work) (ou:List Int):St U El:=⟨[(0,(.int .i64 i)),(1,(.ptr 1000000000 0)),(2,(.ptr 1000000001 0)),(3,(.ptr 1000000002 0))],[(1000000000,(.box 1000000000 [(.ful 1000000003)])),(1000000001,(.box 1000000001 [(.lst .work l)])),(1000000002,(.box 1000000002 [(.fn 76 [] [(.ptr 1000000000 0),(.ptr 1000000001 0),(.ptr 1000000002 0)])])),(1000000003,(.rows .int ou))]⟩
noncomputable def fr1 (i0:Int) (aA:List Int) (bA:List Work):St U El:=⟨[(0,(.int .i64 i0)),(1,(.ptr 1000000000 0))],[(1000000000,(.box 1000000000 [(.ful 1000000003)])),(1000000001,(.box 1000000001 [(.lst .work bA)])),(1000000002,(.box 1000000002 [(.fn 76 [] [(.ptr 1000000000 0),(.ptr 1000000001 0),(.ptr 1000000002 0)])])),(1000000003,(.rows .int aA))]⟩
noncomputable def fr2 (i0:Int) (cA:Int) (aA:List Int) (bA:List Work):St U El:=⟨[(0,(.int .i64 i0)),(1,(.ptr 1000000000 0)),(2,(.ptr 1000000001 0)),(6,(.int .i64 cA))],[(1000000000,(.box 1000000000 [(.ful 1000000003)])),(1000000001,(.box 1000000001 [(.lst .work bA)])),(1000000002,(.box 1000000002 [(.fn 76 [] [(.ptr 1000000000 0),(.ptr 1000000001 0),(.ptr 1000000002 0)])])),(1000000003,(.rows .int aA))]⟩
noncomputable def fr3 (i0:Int) (cA:Int) (gA:List Int) (kA:Int) (fA:Int) (aA:List Int) (bA:List Work):St U El:=⟨[(0,(.int .i64 i0)),(1,(.ptr 1000000000 0)),(2,(.ptr 1000000001 0)),(3,(.ptr 1000000002 0)),(6,(.int .i64 cA)),(18,(.lst .int gA)),(19,(.int .i64 kA)),(20,(.int .i64 fA))],[(1000000000,(.box 1000000000 [(.ful 1000000003)])),(1000000001,(.box 1000000001 [(.lst .work bA)])),(1000000002,(.box 1000000002 [(.fn 76 [] [(.ptr 1000000000 0),(.ptr 1000000001 0),(.ptr 1000000002 0)])])),(1000000003,(.rows .int aA))]⟩
noncomputable def sh0 (i:Int) (l:List Work) (ou:List Int) (k1:Y1) (k3:Y3):R :=
  chk (inb i (List.length ou)) (chk (nlt (Int.toNat i) (List.length ou)) (ah ((List.getD ou (Int.toNat i) d_int) == (0:Int)) (chk (inb i (List.length l)) (k3 i (0:Int) ((List.getD l (Int.toNat i) aa).wa) (Int.ofNat (List.length ((List.getD l (Int.toNat i) aa).wa))) (0:Int) ou l)) (k1 i ou l)))
noncomputable def sh1 (i0:Int) (aA:List Int) (bA:List Work):R :=
  chk (inb i0 (List.length aA)) (chk (nlt (Int.toNat i0) (List.length aA)) (some ((.int .i64 (List.getD aA (Int.toNat i0) d_int)),[(1000000000,(.box 1000000000 [(.ful 1000000003)])),(1000000001,(.box 1000000001 [(.lst .work bA)])),(1000000002,(.box 1000000002 [(.fn 76 [] [(.ptr 1000000000 0),(.ptr 1000000001 0),(.ptr 1000000002 0)])])),(1000000003,(.rows .int aA))])))
noncomputable def sh2 (i0:Int) (cA:Int) (aA:List Int) (bA:List Work) (k1:Y1):R :=
  chk (inb i0 (List.length bA)) (chk (inb i0 (List.length aA)) (chk (nlt (Int.toNat i0) (List.length aA)&&true) (k1 i0 (List.set aA (Int.toNat i0) (IntKind.wrap .i64 (cA+(List.getD bA (Int.toNat i0) aa).wh))) bA)))
noncomputable def sh3 (i0:Int) (cA:Int) (gA:List Int) (kA:Int) (fA:Int) (aA:List Int) (bA:List Work) (k2:Y2) (k3:Y3):R :=
  ah (ilt fA kA) (chk (inb fA (List.length gA)) (chk (gH bA Bnd.n (List.getD gA (Int.toNat fA) d_int) aA) (k3 i0 (bif ilt cA (dh bA (List.getD gA (Int.toNat fA) d_int)) then (dh bA (List.getD gA (Int.toNat fA) d_int)) else cA) gA kA (IntKind.wrap .i64 (fA+(1:Int))) (dZ bA Bnd.n (List.getD gA (Int.toNat fA) d_int) aA) bA))) (k2 i0 cA aA bA)
noncomputable def it3 (Kb2:ae U El) (n:Nat):ae U El:=bL nm3 (fun st' K'=>ak X (cdp [1,0,1,0,1,0,1,0,0] bd) .d st' K' (aw 0 (ap nm2 Kb2) (fun _ _=>none)) RR) n
noncomputable def ct1:ae U El:=fun st=>ak X (cdp [1,1] bd) .d st RR (fun _ _=>none) RR
noncomputable def ct2 (Kb1:ae U El):ae U El:=fun st=>ak X (cdp [1,0,1,0,1,1] bd) (.region [(10,1000000003)]) st (ap nm1 Kb1) (fun _ _=>none) RR
theorem P0 (i l ou):ak X (cdp [] bd) (.seq none .d (.seq (some nm1) (.seq none .d (.cond (.seq none .d (.seq (some nm2) (.seq none .d (.block (.loop nm3 .d))) (.region [(10,1000000003)]))) .d)) .d)) (fr0 i l ou) RR (fun _ _=>none) RR=sh0 i l ou (fun y0 y1 y2=>(hid ct1) (fr1 y0 y1 y2)) (fun y0 y1 y2 y3 y4 y5 y6=>(hid (it3 (hid (ct2 (hid ct1))) 100000)) (fr3 y0 y1 y2 y3 y4 y5 y6)):=by kernel_rfl
theorem P1 (i0 aA bA):ct1 (fr1 i0 aA bA)=sh1 i0 aA bA:=by kernel_rfl
theorem P2 (i0 cA aA bA) (Kb1:ae U El):ct2 Kb1 (fr2 i0 cA aA bA)=sh2 i0 cA aA bA (fun y0 y1 y2=>Kb1 (fr1 y0 y1 y2)):=by kernel_rfl
theorem P3 (i0 cA gA kA fA aA bA) (Kb2 Kb3:ae U El):ak X (cdp [1,0,1,0,1,0,1,0,0] bd) .d (fr3 i0 cA gA kA fA aA bA) (ap nm3 Kb3) (aw 0 (ap nm2 Kb2) (fun _ _=>none)) RR=sh3 i0 cA gA kA fA aA bA (fun y0 y1 y2 y3=>Kb2 (fr2 y0 y1 y2 y3)) (fun y0 y1 y2 y3 y4 y5 y6=>Kb3 (fr3 y0 y1 y2 y3 y4 y5 y6)):=by kernel_rfl
noncomputable def f1 (i0:Int) (aA:List Int) (bA:List Work):R:=sh1 i0 aA bA
noncomputable def f2 (i0:Int) (cA:Int) (aA:List Int) (bA:List Work):R:=sh2 i0 cA aA bA f1
noncomputable def f3:Nat→Y3
  | 0=>fun _ _ _ _ _ _ _=>none
  | n+1=>fun i0 cA gA kA fA aA bA=>sh3 i0 cA gA kA fA aA bA f2 (f3 n)
noncomputable def f0 (i:Int) (l:List Work) (ou:List Int):R:=sh0 i l ou f1 (f3 100000)
theorem T1 (i0 aA bA):(hid ct1) (fr1 i0 aA bA)=f1 i0 aA bA:=by
  refine (congrFun (am _) _).trans <| (P1 i0 aA bA).trans ?_
  show _=sh1 i0 aA bA
  rfl
theorem T2 (i0 cA aA bA):(hid (ct2 (hid ct1))) (fr2 i0 cA aA bA)=f2 i0 cA aA bA:=by
  refine (congrFun (am _) _).trans <| (P2 i0 cA aA bA (hid ct1)).trans ?_
  show _=sh2 i0 cA aA bA f1
  simp only [T1]
theorem T3:∀ (n:Nat),∀ i0 cA gA kA fA aA bA,it3 (hid (ct2 (hid ct1))) n (fr3 i0 cA gA kA fA aA bA)=f3 n i0 cA gA kA fA aA bA:=by
  intro n
  induction n with
  | zero=>intros; rfl
  | succ n ih =>
    intro i0 cA gA kA fA aA bA
    refine (P3 i0 cA gA kA fA aA bA (hid (ct2 (hid ct1))) (it3 (hid (ct2 (hid ct1))) n)).trans ?_
    show _=sh3 i0 cA gA kA fA aA bA f2 (f3 n)
    simp only [T2,ih]
theorem H3 (i0 cA gA kA fA aA bA):hid (it3 (hid (ct2 (hid ct1))) 100000) (fr3 i0 cA gA kA fA aA bA)=f3 100000 i0 cA gA kA fA aA bA:=(congrFun (am _) _).trans (T3 100000 i0 cA gA kA fA aA bA)
theorem T0 (i l ou):ak X bd (.seq none .d (.seq (some nm1) (.seq none .d (.cond (.seq none .d (.seq (some nm2) (.seq none .d (.block (.loop nm3 .d))) (.region [(10,1000000003)]))) .d)) .d)) (fr0 i l ou) RR (fun _ _=>none) RR=f0 i l ou:=by
  refine (P0 i l ou).trans ?_
  show _=sh0 i l ou f1 (f3 100000)
  simp only [T1,H3]
theorem run (i l ou):jy X bd (.seq none .d (.seq (some nm1) (.seq none .d (.cond (.seq none .d (.seq (some nm2) (.seq none .d (.block (.loop nm3 .d))) (.region [(10,1000000003)]))) .d)) .d)) nmR [5] [(1000000000,(.box 1000000000 [(.ful 1000000003)])),(1000000001,(.box 1000000001 [(.lst .work l)])),(1000000002,(.box 1000000002 [(.fn 76 [] [(.ptr 1000000000 0),(.ptr 1000000001 0),(.ptr 1000000002 0)])])),(1000000003,(.rows .int ou))] [(.int .i64 i),(.ptr 1000000000 0),(.ptr 1000000001 0),(.ptr 1000000002 0)]=f0 i l ou:=T0 i l ou
theorem loop (l:List Work) (hk:okE l=true) (i:Nat) (hi:i < l.length) (hd:∀ a∈l[i].wa,cu l Bnd.n a=true):∀ (n j:Nat) (first:Int) (o:List Int),l[i].wa.length < n+j→j≤l[i].wa.length→k9 l o →
    f3 n (i:Int) first l[i].wa (Int.ofNat l[i].wa.length) (j:Int) o l=f2 (i:Int) (List.foldl (fun m a=>mx m (dh l a)) first (l[i].wa.drop j)) (List.foldl (fun o a=>dZ l Bnd.n a o) o (l[i].wa.drop j)) l:=by
  have hE:=k0 hk
  intro n
  induction n with
  | zero=>intro j first o h1 h2; omega
  | succ n ih =>
    intro j first o h1 h2 ho
    show sh3 (i:Int) first l[i].wa (Int.ofNat l[i].wa.length) (j:Int) o l f2 (f3 n)=_
    unfold sh3
    have hwa:=(hE.wa i hi).1
    by_cases hj:j < l[i].wa.length
    · obtain ⟨q, hq, hql⟩ := (hE.wa i hi).2 _ (List.getElem_mem hj)
      have hdq:=hd _ (List.getElem_mem hj)
      rw [bl hj,List.foldl_cons,List.foldl_cons]
      rw [bw (by simp; omega),aZ hj,ac,al hj]
      rw [hq] at hdq ⊢
      obtain ⟨⟨g1,_⟩,_⟩:=nl hE Bnd.n q o hql hdq ho
      rw [p7 hk ho hql hdq,bo j (by omega),cH,cS,cS]
      exact ih (j+1) _ _ (by omega) hj g1
    · have : j = l[i].wa.length := by omega
      subst this
      rw [bp (by simp),List.drop_length,bV]
      rfl
theorem f0_eq (i:Int) (l:List Work) (ou:List Int) (h:gH l (Nat.succ Bnd.n) i ou=true):f0 i l ou=sQ (dh l i) l (dZ l (Nat.succ Bnd.n) i ou):=by
  obtain ⟨hk,ho,q,rfl,hq,hd⟩:=nX h
  have hE:=k0 hk
  have hqo:q < ou.length:=by rw [ho.1]; exact hq
  obtain ⟨⟨g1,g2⟩,g3⟩:=nl hE (Nat.succ Bnd.n) q ou hq hd ho
  rw [Nat.succ_eq_add_one] at *
  show sh0 (q:Int) l ou f1 (f3 100000)=_
  unfold sh0
  rw [nW,ac,al hq] at g1 g2 g3 ⊢
  rw [aZ hqo,eb hqo,aZ hq,cS,cS,cS]
  by_cases h0:List.getD ou q d_int=0
  · have hb : (List.getD ou q d_int == (0 : Int)) = true := beq_iff_eq.2 h0
    rw [hb] at g1 g3 ⊢
    rw [cH,cond_true]
    rw [cond_true] at g1 g3
    have hd2:=hd
    rw [fC,ac,al hq] at hd2
    refine (loop l hk q hq (List.all_eq_true.1 hd2) 100000 0 0 ou (by have:=(hE.wa q hq).1; omega) (by omega) ho).trans ?_
    rw [List.drop_zero]
    show sh2 (q:Int) _ _ l f1=_
    unfold sh2
    have hlen:q < (List.foldl (fun o a=>dZ l Bnd.n a o) ou l[q].wa).length:=by
      have:=g1.1
      rw [List.length_set] at this
      omega
    have hb:=sF hE hq
    have h1:=sG hE hq
    rw [aZ hq,aZ hlen,ac,al hq,eb hlen,← h1,bU (by omega) (by omega)]
    show sh1 (q:Int) _ l=_
    unfold sh1
    rw [aZ (by rw [List.length_set]; exact hlen),ac,eb (by rw [List.length_set]; exact hlen),g3]
    rfl
  · have hb : (List.getD ou q d_int == (0 : Int)) = false := beq_eq_false_iff_ne.2 h0
    rw [hb] at g1 g3 ⊢
    rw [bV,cond_false]
    rw [cond_false] at g3
    show sh1 (q:Int) ou l=_
    unfold sh1
    rw [aZ hqo,ac,eb hqo,g3]
    rfl
theorem ok:CtxOk Try.prog X:=aU tab spN dpN
theorem okM:MOk Try.prog X:=bF _ (mpC (cF ok visitR.spOk) mpN)
theorem spec (i:Int) (l:List Work) (ou:List Int) (h:(gH l (Nat.succ Bnd.n) i ou)=true):MCall Try.prog E 76 [(.int .i64 i),(.ptr 1000000000 0),(.ptr 1000000001 0),(.ptr 1000000002 0)] [(1000000000,(.box 1000000000 [(.ful 1000000003)])),(1000000001,(.box 1000000001 [(.lst .work l)])),(1000000002,(.box 1000000002 [(.fn 76 [] [(.ptr 1000000000 0),(.ptr 1000000001 0),(.ptr 1000000002 0)])])),(1000000003,(.rows .int ou))] (.int .i64 (dh l i)) [(1000000000,(.box 1000000000 [(.ful 1000000003)])),(1000000001,(.box 1000000001 [(.lst .work l)])),(1000000002,(.box 1000000002 [(.fn 76 [] [(.ptr 1000000000 0),(.ptr 1000000001 0),(.ptr 1000000002 0)])])),(1000000003,(.rows .int (dZ l (Nat.succ Bnd.n) i ou)))] :=
  bG ok okM Try.func76 (by kernel_rfl) (by kernel_rfl) (by kernel_rfl) (by show 4≤44; decide) ((run i l ou).trans (f0_eq i l ou h))
noncomputable def sp:MSp U El:=fun args hs k=>match args,hs with
  | [.int .i64 i,.ptr q0 0,.ptr q1 0,.ptr q2 0],[(q3,.box q4 [.ful q5]),(q6,.box q7 [.lst .work l]),(q8,.box q9 [.fn 76 [] [.ptr q10 0,.ptr q11 0,.ptr q12 0]]),(q13,.rows .int ou)]=>chk (Nat.beq q0 1000000000&&(Nat.beq q1 1000000001&&(Nat.beq q2 1000000002&&(Nat.beq q3 1000000000&&(Nat.beq q4 1000000000&&(Nat.beq q5 1000000003&&(Nat.beq q6 1000000001&&(Nat.beq q7 1000000001&&(Nat.beq q8 1000000002&&(Nat.beq q9 1000000002&&(Nat.beq q10 1000000000&&(Nat.beq q11 1000000001&&(Nat.beq q12 1000000002&&(Nat.beq q13 1000000003&&true)))))))))))))) (chk (gH l (Nat.succ Bnd.n) i ou) (k (.int .i64 (dh l i)) [(1000000000,(.box 1000000000 [(.ful 1000000003)])),(1000000001,(.box 1000000001 [(.lst .work l)])),(1000000002,(.box 1000000002 [(.fn 76 [] [(.ptr 1000000000 0),(.ptr 1000000001 0),(.ptr 1000000002 0)])])),(1000000003,(.rows .int (dZ l (Nat.succ Bnd.n) i ou)))]))
  | _,_=>none
theorem spOk:cJ Try.prog E 76 sp:=⟨Try.call76,fun args hs k r h=>by
  unfold sp at h
  split at h
  · obtain ⟨hq, hA⟩ := ab h
    clear h
    simp only [Bool.and_eq_true] at hq
    obtain ⟨e0,e1,e2,e3,e4,e5,e6,e7,e8,e9,e10,e11,e12,e13,_⟩:=hq
    cases Nat.eq_of_beq_eq_true e0
    cases Nat.eq_of_beq_eq_true e1
    cases Nat.eq_of_beq_eq_true e2
    cases Nat.eq_of_beq_eq_true e3
    cases Nat.eq_of_beq_eq_true e4
    cases Nat.eq_of_beq_eq_true e5
    cases Nat.eq_of_beq_eq_true e6
    cases Nat.eq_of_beq_eq_true e7
    cases Nat.eq_of_beq_eq_true e8
    cases Nat.eq_of_beq_eq_true e9
    cases Nat.eq_of_beq_eq_true e10
    cases Nat.eq_of_beq_eq_true e11
    cases Nat.eq_of_beq_eq_true e12
    cases Nat.eq_of_beq_eq_true e13
    obtain ⟨h1,hB⟩:=ab hA
    exact ⟨_,_,spec _ _ _ h1,hB⟩
  · cases h⟩
theorem spDet:∀ args hs,∃ oo:Option (AV U El×ar U El),∀ k,sp args hs k=oo.bind fun p=>k p.1 p.2:=fun args hs=>by
  unfold sp
  split
  · exact aO (aO ⟨some (_,_),fun _=>rfl⟩)
  · exact ⟨none,fun _=>rfl⟩
end visit
end
theorem p8:∀ n,sI n
  | 0 => fun i l ou h => by
    obtain ⟨_,_,q,_,_,hd⟩:=nX h
    cases hd
  | n+1=>@visit.spec ⟨n,p8 n⟩
namespace visitF
theorem spec (i:Int) (l:List Work) (ou:List Int) (h:(gH l 200 i ou)=true):MCall Try.prog E 76 [(.int .i64 i),(.ptr 1000000000 0),(.ptr 1000000001 0),(.ptr 1000000002 0)] [(1000000000,(.box 1000000000 [(.ful 1000000003)])),(1000000001,(.box 1000000001 [(.lst .work l)])),(1000000002,(.box 1000000002 [(.fn 76 [] [(.ptr 1000000000 0),(.ptr 1000000001 0),(.ptr 1000000002 0)])])),(1000000003,(.rows .int ou))] (.int .i64 (dh l i)) [(1000000000,(.box 1000000000 [(.ful 1000000003)])),(1000000001,(.box 1000000001 [(.lst .work l)])),(1000000002,(.box 1000000002 [(.fn 76 [] [(.ptr 1000000000 0),(.ptr 1000000001 0),(.ptr 1000000002 0)])])),(1000000003,(.rows .int (dZ l 200 i ou)))]:=p8 200 _ _ _ h
noncomputable def sp:MSp U El:=fun args hs k=>match args,hs with
  | [.int .i64 i,.ptr q0 0,.ptr q1 0,.ptr q2 0],[(q3,.box q4 [.ful q5]),(q6,.box q7 [.lst .work l]),(q8,.box q9 [.fn 76 [] [.ptr q10 0,.ptr q11 0,.ptr q12 0]]),(q13,.rows .int ou)]=>chk (Nat.beq q0 1000000000&&(Nat.beq q1 1000000001&&(Nat.beq q2 1000000002&&(Nat.beq q3 1000000000&&(Nat.beq q4 1000000000&&(Nat.beq q5 1000000003&&(Nat.beq q6 1000000001&&(Nat.beq q7 1000000001&&(Nat.beq q8 1000000002&&(Nat.beq q9 1000000002&&(Nat.beq q10 1000000000&&(Nat.beq q11 1000000001&&(Nat.beq q12 1000000002&&(Nat.beq q13 1000000003&&true)))))))))))))) (chk (gH l 200 i ou) (k (.int .i64 (dh l i)) [(1000000000,(.box 1000000000 [(.ful 1000000003)])),(1000000001,(.box 1000000001 [(.lst .work l)])),(1000000002,(.box 1000000002 [(.fn 76 [] [(.ptr 1000000000 0),(.ptr 1000000001 0),(.ptr 1000000002 0)])])),(1000000003,(.rows .int (dZ l 200 i ou)))]))
  | _,_=>none
theorem spOk:cJ Try.prog E 76 sp:=⟨Try.call76,fun args hs k r h=>by
  unfold sp at h
  split at h
  · obtain ⟨hq, hA⟩ := ab h
    clear h
    simp only [Bool.and_eq_true] at hq
    obtain ⟨e0,e1,e2,e3,e4,e5,e6,e7,e8,e9,e10,e11,e12,e13,_⟩:=hq
    cases Nat.eq_of_beq_eq_true e0
    cases Nat.eq_of_beq_eq_true e1
    cases Nat.eq_of_beq_eq_true e2
    cases Nat.eq_of_beq_eq_true e3
    cases Nat.eq_of_beq_eq_true e4
    cases Nat.eq_of_beq_eq_true e5
    cases Nat.eq_of_beq_eq_true e6
    cases Nat.eq_of_beq_eq_true e7
    cases Nat.eq_of_beq_eq_true e8
    cases Nat.eq_of_beq_eq_true e9
    cases Nat.eq_of_beq_eq_true e10
    cases Nat.eq_of_beq_eq_true e11
    cases Nat.eq_of_beq_eq_true e12
    cases Nat.eq_of_beq_eq_true e13
    obtain ⟨h1,hB⟩:=ab hA
    exact ⟨_,_,spec _ _ _ h1,hB⟩
  · cases h⟩
theorem spDet:∀ args hs,∃ oo:Option (AV U El×ar U El),∀ k,sp args hs k=oo.bind fun p=>k p.1 p.2:=fun args hs=>by
  unfold sp
  split
  · exact aO (aO ⟨some (_,_),fun _=>rfl⟩)
  · exact ⟨none,fun _=>rfl⟩
end visitF
namespace earliest
noncomputable def bd:Code:=(Try.f53.body).getD .skip
noncomputable def X:Ctx U El:=⟨E,tds,zeros,eqs,aG [],100000,20,aD [],cg [(76,(gz visitF.sp))]⟩
noncomputable def nmR:Norm U:=⟨[],[2],[],[(2,.int)],[],[],[]⟩
noncomputable def RR:ae U El:=fun st=>aM nmR st (aK [2] [])
noncomputable def nm1:Norm U:=⟨[],[3],[3,500000300],[],[(3,0,.int,500000300)],[],[]⟩
noncomputable def nm2:Norm U:=⟨[],[3,4,11,12],[1,3,4,500000300],[],[(3,0,.int,500000300)],[],[(1,0,.work)]⟩
abbrev Y1:=(List Int)→R
abbrev Y2:=Int→Int→(List Work)→(List Int)→R
noncomputable def fr0 (l:List Work):St U El:=⟨[(0,(.lst .work l))],[]⟩
noncomputable def fr1 (dA:List Int):St U El:=⟨[(3,(.ptr 3 0))],[(3,(.box 0 [(.ful 500000300)])),(500000300,(.rows .int dA))]⟩
noncomputable def fr2 (jA:Int) (iA:Int) (eA:List Work) (dA:List Int):St U El:=⟨[(3,(.ptr 3 0)),(4,(.ptr 4 0)),(11,(.int .i64 jA)),(12,(.int .i64 iA))],[(1,(.box 0 [(.lst .work eA)])),(3,(.box 0 [(.ful 500000300)])),(4,(.box 0 [(.fn 76 [] [(.ptr 3 0),(.ptr 1 0),(.ptr 4 0)])])),(500000300,(.rows .int dA))]⟩
noncomputable def sh0 (l:List Work) (k2:Y2):R :=
  chk (ile 0 (Int.ofNat (List.length l))&&ile (Int.ofNat (List.length l)) (Int.ofNat (List.length l))&&ile ((Int.ofNat (List.length l)) * 8) 140737488355328) (k2 (Int.ofNat (List.length l)) (0:Int) l (List.replicate (Int.toNat (Int.ofNat (List.length l))) d_int))
noncomputable def sh1 (dA:List Int):R :=
  some ((.lst .int dA),[])
noncomputable def sh2 (jA:Int) (iA:Int) (eA:List Work) (dA:List Int) (k1:Y1) (k2:Y2):R :=
  ah (ilt iA jA) (chk (gH eA 200 iA dA) (k2 jA (IntKind.wrap .i64 (iA+(1:Int))) eA (dZ eA 200 iA dA))) (k1 dA)
noncomputable def it2 (Kb1:ae U El) (n:Nat):ae U El:=bL nm2 (fun st' K'=>ak X (cdp [1,1,1,1,0,1,0,0] bd) .d st' K' (aw 0 (ap nm1 Kb1) (fun _ _=>none)) RR) n
noncomputable def ct1:ae U El:=fun st=>ak X (cdp [1,1,1,1,1] bd) .d st RR (fun _ _=>none) RR
theorem P0 (l):ak X (cdp [] bd) (.seq none .d (.seq none .d (.seq none .d (.seq none .d (.seq (some nm1) (.seq none .d (.block (.loop nm2 .d))) .d))))) (fr0 l) RR (fun _ _=>none) RR=sh0 l (fun y0 y1 y2 y3=>(hid (it2 (hid ct1) 100000)) (fr2 y0 y1 y2 y3)):=by kernel_rfl
theorem P1 (dA):ct1 (fr1 dA)=sh1 dA:=by kernel_rfl
theorem P2 (jA iA eA dA) (Kb1 Kb2:ae U El):ak X (cdp [1,1,1,1,0,1,0,0] bd) .d (fr2 jA iA eA dA) (ap nm2 Kb2) (aw 0 (ap nm1 Kb1) (fun _ _=>none)) RR=sh2 jA iA eA dA (fun y0=>Kb1 (fr1 y0)) (fun y0 y1 y2 y3=>Kb2 (fr2 y0 y1 y2 y3)):=by kernel_rfl
noncomputable def f1 (dA:List Int):R:=sh1 dA
noncomputable def f2:Nat→Y2
  | 0=>fun _ _ _ _=>none
  | n+1=>fun jA iA eA dA=>sh2 jA iA eA dA f1 (f2 n)
noncomputable def f0 (l:List Work):R:=sh0 l (f2 100000)
theorem T1 (dA):(hid ct1) (fr1 dA)=f1 dA:=by
  refine (congrFun (am _) _).trans <| (P1 dA).trans ?_
  show _=sh1 dA
  rfl
theorem T2:∀ (n:Nat),∀ jA iA eA dA,it2 (hid ct1) n (fr2 jA iA eA dA)=f2 n jA iA eA dA:=by
  intro n
  induction n with
  | zero=>intros; rfl
  | succ n ih =>
    intro jA iA eA dA
    refine (P2 jA iA eA dA (hid ct1) (it2 (hid ct1) n)).trans ?_
    show _=sh2 jA iA eA dA f1 (f2 n)
    simp only [T1,ih]
theorem H2 (jA iA eA dA):hid (it2 (hid ct1) 100000) (fr2 jA iA eA dA)=f2 100000 jA iA eA dA:=(congrFun (am _) _).trans (T2 100000 jA iA eA dA)
theorem T0 (l):ak X bd (.seq none .d (.seq none .d (.seq none .d (.seq none .d (.seq (some nm1) (.seq none .d (.block (.loop nm2 .d))) .d))))) (fr0 l) RR (fun _ _=>none) RR=f0 l:=by
  refine (P0 l).trans ?_
  show _=sh0 l (f2 100000)
  simp only [H2]
theorem run (l):bg X bd (.seq none .d (.seq none .d (.seq none .d (.seq none .d (.seq (some nm1) (.seq none .d (.block (.loop nm2 .d))) .d))))) nmR [2] [] [(.lst .work l)]=f0 l:=T0 l
theorem loop (l : List Work) (hk : okE l = true) : ∀ (n i : Nat) (o : List Int), l.length < n + i → i ≤ l.length → k9 l o → (∀ j, j < i → List.getD o j d_int = dh l (j : Int)) → f2 n (Int.ofNat l.length) (i : Int) l o = some ((.lst .int (ec l)), []) := by
  have hE:=k0 hk
  intro n
  induction n with
  | zero=>intro i o h1 h2; omega
  | succ n ih =>
    intro i o h1 h2 ho hd
    show sh2 (Int.ofNat l.length) (i:Int) l o f1 (f2 n)=_
    unfold sh2
    have hn:=hE.n
    by_cases hi:i < l.length
    · have hdep : cu l 200 (i : Int) = true := nk l (by omega) (hE.dep i hi)
      obtain ⟨⟨g1,g2⟩,g3⟩:=nl hE 200 i o hi hdep ho
      rw [bw (by simp; omega),p7 hk ho hi hdep,bo i (by omega),cH,cS]
      refine ih (i+1) _ (by omega) hi g1 fun j hj => ?_
      by_cases e:j=i
      · subst e; exact g3
      · have hji : j < i := by omega
        have hjl:j < l.length:=by omega
        rw [g2 j (by rw [hd j hji]; have:=sF hE hjl; omega),hd j hji]
    · have : i = l.length := by omega
      subst this
      rw [bp (by simp),bV]
      show sh1 o=_
      unfold sh1
      have:o=ec l:=by
        refine List.ext_getElem (by rw [ho.1]; simp [ec]) fun j h1 h2 => ?_
        have:=hd j (by rw [← ho.1]; exact h1)
        rw [al h1] at this
        rw [this]
        simp [ec]
      rw [this]
theorem f0_eq (l:List Work) (h:okE l=true):f0 l=some ((.lst .int (ec l)),[]):=by
  have hE:=k0 h
  have hn:=hE.n
  show sh0 l (f2 100000)=_
  unfold sh0
  rw [bD (show (0:Int)≤Int.ofNat l.length by simp),bD (Int.le_refl (Int.ofNat l.length)),bD (show Int.ofNat l.length * 8≤140737488355328 by simp; omega)]
  show f2 100000 (Int.ofNat l.length) ((0:Nat):Int) l (List.replicate l.length d_int)=_
  refine loop l h 100000 0 _ (by omega) (by omega) ⟨by simp,fun j hj => .inl ?_⟩ (fun j hj=>by omega)
  rw [al (by simpa using hj),List.getElem_replicate]
  rfl
theorem ok:CtxOk Try.prog X:=aU tab spN dpN
theorem okM:MOk Try.prog X:=bF _ (mpC (cF ok visitF.spOk) mpN)
theorem spec (l:List Work) (h:(okE l)=true):az Try.prog E 53 [(.lst .work l)] (.lst .int (ec l)) [] :=
  aq ok okM Try.call53 Try.func53 (by kernel_rfl) (by kernel_rfl) (by kernel_rfl) (by show 1≤20; decide) (by decide) (by rfl) ((run l).trans (f0_eq l h))
noncomputable def sp:Sp U El:=fun args k=>match args with
  | [.lst .work l]=>chk (okE l) (k (.lst .int (ec l)) [])
  | _=>none
theorem spOk:SpOk Try.prog E 53 sp where
  det:=fun vs=>by
    unfold sp
    split
    · exact bz _ _ _
    · exact ⟨none,fun _=>rfl⟩
  ok:=fun vs k r h=>by
    unfold sp at h
    split at h
    · obtain ⟨h1, h2⟩ := ab h
      exact ⟨_,_,spec _ h1,h2⟩
    · cases h
end earliest
end Go.Proofs.Ythdklallcljhlaa

namespace Go.Proofs.Ythdklallcljhlaa
set_option linter.unusedSectionVars false
set_option linter.unusedSimpArgs false
set_option linter.unusedVariables false
set_option maxRecDepth 100000
theorem mm (f g:Nat→Bool):∀ xs:List Nat,(∀ a∈xs,f a=true→g a=true)→bh (xs.map g)≤bh (xs.map f):=by
  intro xs
  induction xs with
  | nil=>intro _; exact Nat.le_refl _
  | cons x xs ih =>
    intro h
    have h1:=ih fun a ha=>h a (List.mem_cons_of_mem _ ha)
    have h2:=h x (List.mem_cons_self ..)
    show (bif g x then 0 else 1)+bh (xs.map g)≤(bif f x then 0 else 1)+bh (xs.map f)
    cases hf:f x with
    | true=>rw [h2 hf,cond_true]; omega
    | false=>cases g x<;>simp<;>omega
theorem rY (f g:Nat→Bool):∀ xs:List Nat,(∀ a∈xs,f a=true→g a=true)→(∃ i∈xs,f i=false∧g i=true)→bh (xs.map g) < bh (xs.map f):=by
  intro xs
  induction xs with
  | nil=>rintro _ ⟨i,hi,_⟩; cases hi
  | cons x xs ih =>
    rintro h ⟨i,hi,h1,h2⟩
    have hm:=mm f g xs fun a ha=>h a (List.mem_cons_of_mem _ ha)
    show (bif g x then 0 else 1)+bh (xs.map g) < (bif f x then 0 else 1)+bh (xs.map f)
    rcases List.mem_cons.1 hi with rfl | hi
    · rw [h1,h2,cond_true,cond_false]; omega
    · have h3 := ih (fun a ha => h a (List.mem_cons_of_mem _ ha)) ⟨i, hi, h1, h2⟩
      have h4:=h x (List.mem_cons_self ..)
      cases hf:f x with
      | true=>rw [h4 hf,cond_true]; omega
      | false=>cases g x<;>simp<;>omega
theorem kq {l:List Work} (h:dG l=true):oN l:=@of_decide_eq_true _ (Classical.propDecidable _) h
theorem p9 {l : List Work} (h : dG l = true) (hin : ∀ w ∈ l, ∀ a ∈ w.wa, inb a l.length = true) : ∀ i : Nat, i < l.length → cu l l.length (i : Int) = true := by
  have ha:=kq h
  have key:∀ k,bh ((List.range l.length).map fun i:Nat=>cu l k (i:Int))≤l.length - k:=by
    intro k
    induction k with
    | zero =>
      have:∀ xs:List Bool,bh xs≤xs.length:=by
        intro xs
        induction xs with
        | nil=>exact Nat.le_refl _
        | cons b xs ih=>show (bif b then 0 else 1)+bh xs≤xs.length+1; cases b<;>simp<;>omega
      exact Nat.le_trans (this _) (by simp)
    | succ k ih =>
      by_cases hp:0 < bh ((List.range l.length).map fun i:Nat=>cu l k (i:Int))
      · obtain ⟨i, hi, h1, h2⟩ := nU ha (dn := (List.range l.length).map fun i : Nat => cu l k (i : Int)) (by simp) hin hp
        have hg:∀ j,j < l.length→List.getD ((List.range l.length).map fun i:Nat=>cu l k (i:Int)) j d_bool=cu l k (j:Int):=fun j hj=>by
          rw [al (by simpa using hj)]; simp
        rw [hg i hi] at h1
        have h3:cu l (k+1) (i:Int)=true:=by
          rw [fC,ac,al hi]
          refine List.all_eq_true.2 fun a haa => ?_
          have hb:=hin _ (List.getElem_mem hi) a haa
          simp only [inb,Bool.and_eq_true] at hb
          obtain ⟨q,rfl⟩:=Int.eq_ofNat_of_zero_le (b7 hb.1)
          have q2:=dJ hb.2
          have h4:=List.all_eq_true.1 h2 _ haa
          rw [ac,hg q (by simp at q2; omega)] at h4
          exact h4
        have h5:=rY (fun i:Nat=>cu l k (i:Int)) (fun i:Nat=>cu l (k+1) (i:Int)) (List.range l.length) (fun a _ h=>nh l k _ h) ⟨i,List.mem_range.2 hi,h1,h3⟩
        omega
      · have h5 := mm (fun i : Nat => cu l k (i : Int)) (fun i : Nat => cu l (k + 1) (i : Int)) (List.range l.length) (fun a _ h => nh l k _ h)
        omega
  intro i hi
  have h0:=key l.length
  have:=dH _ (show bh ((List.range l.length).map fun i:Nat=>cu l l.length (i:Int))=0 by omega) i (by simpa using hi)
  rw [al (by simpa using hi)] at this
  simpa using this
structure VV (l:List Work) (crews:Int):Prop where
  cr:1≤crews∧crews≤12
  len:l.length≤100
  good:bH (Int.ofNat l.length) crews [] l=true
  topo:dG l=true
theorem aR {l:List Work} {crews:Int} (h:aQ l crews=true):VV l crews:=by
  simp only [aQ,Bool.and_eq_true,Bool.not_eq_true'] at h
  obtain ⟨⟨h0,h0'⟩,h1,h2,h3⟩:=h
  have:=iI h1
  exact ⟨⟨b7 h0,b7 h0'⟩,by simp at this; omega,h2,h3⟩
theorem oS {l:List Work} {crews:Int} (hv:okV l=true) (h:aQ l crews=true):okE l=true∧∀ i:Nat,i < l.length→cu l l.length (i:Int)=true:=by
  have hV:=aR h
  have hO:=bX hv hV.good
  have hd:=p9 hV.topo fun w hw=>((cX hO).2 w hw).2
  refine ⟨?_,hd⟩
  simp only [okE,Bool.and_eq_true]
  refine ⟨hO,bC hV.len,List.all_eq_true.2 fun w hw => ?_,List.all_eq_true.2 fun i hi=>nk l hV.len (hd i (List.mem_range.1 hi))⟩
  obtain ⟨q1,q2⟩:=dg hV.good w hw
  rw [bD q1,bD q2]
  rfl
noncomputable def ba (w:Work) (e:Int):Int:=IntKind.wrap .i64 (w.wp * (bif ilt (0:Int) (IntKind.wrap .i64 (e - w.wd)) then (IntKind.wrap .i64 (e - w.wd)) else (0:Int)))
namespace late
noncomputable def bd:Code:=(Try.f46.body).getD .skip
noncomputable def X:Ctx U El:=⟨E,tds,zeros,eqs,aG [],100000,13,aD [],fun _=>none⟩
noncomputable def nmR:Norm U:=⟨[],[4],[],[],[],[],[]⟩
noncomputable def RR:ae U El:=fun st=>aM nmR st (aK [4] [])
noncomputable def fr0 (w:Work) (e:Int):St U El:=⟨[(0,(.agg [(.str w.wn),(.int .i64 w.wh),(.lst .int w.wc),(.str w.ws),(.lst .int w.wa),(.int .i64 w.wd),(.int .i64 w.wp)])),(1,(.int .i64 e))],[]⟩
noncomputable def sh0 (w:Work) (e:Int):R :=
  some ((.int .i64 (IntKind.wrap .i64 (w.wp * (bif ilt (0:Int) (IntKind.wrap .i64 (e - w.wd)) then (IntKind.wrap .i64 (e - w.wd)) else (0:Int))))),[])
theorem P0 (w e):ak X (cdp [] bd) .d (fr0 w e) RR (fun _ _=>none) RR=sh0 w e:=by kernel_rfl
noncomputable def f0 (w:Work) (e:Int):R:=sh0 w e
theorem T0 (w e):ak X bd .d (fr0 w e) RR (fun _ _=>none) RR=f0 w e:=by
  refine (P0 w e).trans ?_
  show _=sh0 w e
  rfl
theorem run (w e):bg X bd .d nmR [4] [] [(.agg [(.str w.wn),(.int .i64 w.wh),(.lst .int w.wc),(.str w.ws),(.lst .int w.wa),(.int .i64 w.wd),(.int .i64 w.wp)]),(.int .i64 e)]=f0 w e:=T0 w e
theorem f0_eq (w:Work) (e:Int):f0 w e=dK (ba w e):=rfl
theorem ok:CtxOk Try.prog X:=aU tab spN dpN
theorem okM:MOk Try.prog X:=fun g sp h=>by cases h
theorem spec (w:Work) (e:Int):az Try.prog E 46 [(.agg [(.str w.wn),(.int .i64 w.wh),(.lst .int w.wc),(.str w.ws),(.lst .int w.wa),(.int .i64 w.wd),(.int .i64 w.wp)]),(.int .i64 e)] (.int .i64 (ba w e)) [] :=
  aq ok okM Try.call46 Try.func46 (by kernel_rfl) (by kernel_rfl) (by kernel_rfl) (by show 2≤13; decide) (by decide) (by rfl) ((run w e).trans (f0_eq w e))
noncomputable def sp:Sp U El:=fun args k=>match args with
  | [.agg [.str w_wn,.int .i64 w_wh,.lst .int w_wc,.str w_ws,.lst .int w_wa,.int .i64 w_wd,.int .i64 w_wp],.int .i64 e]=>k (.int .i64 (ba (⟨w_wn,w_wh,w_wc,w_ws,w_wa,w_wd,w_wp⟩:Work) e)) []
  | _=>none
theorem spOk:SpOk Try.prog E 46 sp where
  det:=fun vs=>by
    unfold sp
    split
    · exact ⟨some (_,_),fun _=>rfl⟩
    · exact ⟨none,fun _=>rfl⟩
  ok:=fun vs k r h=>by
    unfold sp at h
    split at h
    · exact ⟨_,_,spec ⟨_,_,_,_,_,_,_⟩ _,h⟩
    · cases h
end late
namespace endc
noncomputable def bd:Code:=(Try.f47.body).getD .skip
noncomputable def X:Ctx U El:=⟨E,tds,zeros,eqs,aG [],100000,14,aD [],fun _=>none⟩
noncomputable def nmR:Norm U:=⟨[],[4],[],[],[],[],[]⟩
noncomputable def RR:ae U El:=fun st=>aM nmR st (aK [4] [])
noncomputable def fr0 (l:List Work) (s:Slot):St U El:=⟨[(0,(.lst .work l)),(1,(.agg [(.int .i64 s.sw),(.int .i64 s.sc),(.int .i64 s.ss)]))],[]⟩
noncomputable def sh0 (l:List Work) (s:Slot):R :=
  chk (inb s.sw (List.length l)) (some ((.int .i64 (IntKind.wrap .i64 (s.ss+(List.getD l (Int.toNat s.sw) aa).wh))),[]))
theorem P0 (l s):ak X (cdp [] bd) .d (fr0 l s) RR (fun _ _=>none) RR=sh0 l s:=by kernel_rfl
noncomputable def f0 (l:List Work) (s:Slot):R:=sh0 l s
theorem T0 (l s):ak X bd .d (fr0 l s) RR (fun _ _=>none) RR=f0 l s:=by
  refine (P0 l s).trans ?_
  show _=sh0 l s
  rfl
theorem run (l s):bg X bd .d nmR [4] [] [(.lst .work l),(.agg [(.int .i64 s.sw),(.int .i64 s.sc),(.int .i64 s.ss)])]=f0 l s:=T0 l s
theorem f0_eq (l:List Work) (s:Slot) (h:inb (Slot.sw s) (List.length l)=true):f0 l s=dK (aE l s):=by
  show sh0 l s=_
  unfold sh0
  rw [h]
  rfl
theorem ok:CtxOk Try.prog X:=aU tab spN dpN
theorem okM:MOk Try.prog X:=fun g sp h=>by cases h
theorem spec (l:List Work) (s:Slot) (h:(inb (Slot.sw s) (List.length l))=true):az Try.prog E 47 [(.lst .work l),(.agg [(.int .i64 s.sw),(.int .i64 s.sc),(.int .i64 s.ss)])] (.int .i64 (aE l s)) [] :=
  aq ok okM Try.call47 Try.func47 (by kernel_rfl) (by kernel_rfl) (by kernel_rfl) (by show 2≤14; decide) (by decide) (by rfl) ((run l s).trans (f0_eq l s h))
noncomputable def sp:Sp U El:=fun args k=>match args with
  | [.lst .work l,.agg [.int .i64 s_sw,.int .i64 s_sc,.int .i64 s_ss]]=>chk (inb (Slot.sw (⟨s_sw,s_sc,s_ss⟩:Slot)) (List.length l)) (k (.int .i64 (aE l (⟨s_sw,s_sc,s_ss⟩:Slot))) [])
  | _=>none
theorem spOk:SpOk Try.prog E 47 sp where
  det:=fun vs=>by
    unfold sp
    split
    · exact bz _ _ _
    · exact ⟨none,fun _=>rfl⟩
  ok:=fun vs k r h=>by
    unfold sp at h
    split at h
    · obtain ⟨h1, h2⟩ := ab h
      exact ⟨_,_,spec _ ⟨_,_,_⟩ h1,h2⟩
    · cases h
end endc
noncomputable def mo (l:List Work) (p:List Slot):Nat→Nat→Int→Int
  | 0,_,s=>s
  | n+1,k,s=>mo l p n (k+1) (IntKind.wrap .i64 (s+ba (List.getD l k aa) (aE l (List.getD p k d_slot))))
noncomputable def iu (l:List Work) (p:List Slot):Int:=mo l p p.length 0 0
noncomputable def d3 (l:List Work) (p:List Slot):Bool:=nle p.length 90000&&(Nat.beq p.length l.length&&List.all p (fun s=>inb s.sw l.length))
structure NoF (l:List Work) (p:List Slot) (i:Nat):Prop where
  sw:(List.getD p i d_slot).sw=(i:Int)
  s0:0≤(List.getD p i d_slot).ss
  s9:(List.getD p i d_slot).ss≤1000000
  ord:∀ a∈(List.getD l i aa).wa,(List.getD p (Int.toNat a) d_slot).ss≤(List.getD p i d_slot).ss - (List.getD l (Int.toNat a) aa).wh
theorem qa {l : List Work} {p : List Slot} {i : Nat} (h : fY l p i = 0) : NoF l p i := by
  unfold fY at h
  cases h1:((List.getD p i d_slot).sw != (i:Int)) with
  | true=>rw [h1,cond_true] at h; omega
  | false =>
    rw [h1,cond_false] at h
    cases h2:(!(List.any (List.getD l i aa).wc (bc (List.getD p i d_slot).sc))) with
    | true=>rw [h2,cond_true] at h; omega
    | false =>
      rw [h2,cond_false] at h
      cases h3:(!(ile 0 (List.getD p i d_slot).ss&&ile (List.getD p i d_slot).ss 1000000)) with
      | true=>rw [h3,cond_true] at h; omega
      | false =>
        rw [h3,cond_false] at h
        cases h4:List.any (List.getD l i aa).wa (iJ l p i) with
        | true=>rw [h4,cond_true] at h; omega
        | false =>
          simp only [Bool.not_eq_false',Bool.and_eq_true] at h3
          refine ⟨by simpa only [bne_eq_false_iff_eq] using h1,b7 h3.1,b7 h3.2,fun a ha => ?_⟩
          have:=List.any_eq_false.1 h4 a ha
          have h5:iJ l p i a=false:=by simpa using this
          have:=iI h5
          omega
noncomputable def rz (a b:Int):R:=some ((.tup [(.int .i64 a),(.int .i64 b)]),[])
noncomputable def rZ (l:List Work) (es:List Int):Nat→Nat→Int→Int
  | 0,_,s=>s
  | n+1,k,s=>rZ l es n (k+1) (IntKind.wrap .i64 (s+ba (List.getD l k aa) (List.getD es k d_int)))
noncomputable def la (l:List Work) (crews:Int):Int:=bif !(aQ l crews) then 0 else rZ l (ec l) l.length 0 0
noncomputable def ld (l:List Work) (crews:Int):Int:=bif !(aQ l crews) then 1 else 0
theorem qb (l:List Work):(ec l).length=l.length:=by simp [ec]
namespace bound
noncomputable def bd:Code:=(Try.f19.body).getD .skip
noncomputable def X:Ctx U El:=⟨E,tds,zeros,eqs,aG [(13,valid.sp),(46,late.sp),(53,earliest.sp)],100000,31,aD [],fun _=>none⟩
noncomputable def nmR:Norm U:=⟨[],[4,5],[],[],[],[],[]⟩
noncomputable def RR:ae U El:=fun st=>aM nmR st (aK [4,5] [])
noncomputable def nm1:Norm U:=⟨[],[6],[],[],[],[],[]⟩
noncomputable def nm2:Norm U:=⟨[],[0,6,14,15,16],[],[],[],[],[]⟩
abbrev Y1:=Int→R
abbrev Y2:=(List Work)→Int→(List Int)→Int→Int→R
noncomputable def fr0 (l:List Work) (crews:Int):St U El:=⟨[(0,(.lst .work l)),(1,(.int .i64 crews))],[]⟩
noncomputable def fr1 (bA:Int):St U El:=⟨[(6,(.int .i64 bA))],[]⟩
noncomputable def fr2 (l0:List Work) (bA:Int) (eA:List Int) (fA:Int) (dA:Int):St U El:=⟨[(0,(.lst .work l0)),(6,(.int .i64 bA)),(14,(.lst .int eA)),(15,(.int .i64 fA)),(16,(.int .i64 dA))],[]⟩
noncomputable def sh0 (l:List Work) (crews:Int) (k2:Y2):R :=
  chk (okV l) (ah (!(aQ l crews)) (some ((.tup [(.int .i64 (0:Int)),(.int .i64 (1:Int))]),[])) (chk (okE l) (k2 l (0:Int) (ec l) (Int.ofNat (List.length (ec l))) (0:Int))))
noncomputable def sh1 (bA:Int):R :=
  some ((.tup [(.int .i64 bA),(.int .i64 (0:Int))]),[])
noncomputable def sh2 (l0:List Work) (bA:Int) (eA:List Int) (fA:Int) (dA:Int) (k1:Y1) (k2:Y2):R :=
  ah (ilt dA fA) (chk (inb dA (List.length eA)) (chk (inb dA (List.length l0)) (k2 l0 (IntKind.wrap .i64 (bA+(ba (List.getD l0 (Int.toNat dA) aa) (List.getD eA (Int.toNat dA) d_int)))) eA fA (IntKind.wrap .i64 (dA+(1:Int)))))) (k1 bA)
noncomputable def it2 (Kb1:ae U El) (n:Nat):ae U El:=bL nm2 (fun st' K'=>ak X (cdp [1,1,1,0,1,0,0] bd) .d st' K' (aw 0 (ap nm1 Kb1) (fun _ _=>none)) RR) n
noncomputable def ct1:ae U El:=fun st=>ak X (cdp [1,1,1,1] bd) .d st RR (fun _ _=>none) RR
theorem P0 (l crews):ak X (cdp [] bd) (.seq none .d (.seq none .d (.seq none .d (.seq (some nm1) (.seq none .d (.block (.loop nm2 .d))) .d)))) (fr0 l crews) RR (fun _ _=>none) RR=sh0 l crews (fun y0 y1 y2 y3 y4=>(hid (it2 (hid ct1) 100000)) (fr2 y0 y1 y2 y3 y4)):=by kernel_rfl
theorem P1 (bA):ct1 (fr1 bA)=sh1 bA:=by kernel_rfl
theorem P2 (l0 bA eA fA dA) (Kb1 Kb2:ae U El):ak X (cdp [1,1,1,0,1,0,0] bd) .d (fr2 l0 bA eA fA dA) (ap nm2 Kb2) (aw 0 (ap nm1 Kb1) (fun _ _=>none)) RR=sh2 l0 bA eA fA dA (fun y0=>Kb1 (fr1 y0)) (fun y0 y1 y2 y3 y4=>Kb2 (fr2 y0 y1 y2 y3 y4)):=by kernel_rfl
noncomputable def f1 (bA:Int):R:=sh1 bA
noncomputable def f2:Nat→Y2
  | 0=>fun _ _ _ _ _=>none
  | n+1=>fun l0 bA eA fA dA=>sh2 l0 bA eA fA dA f1 (f2 n)
noncomputable def f0 (l:List Work) (crews:Int):R:=sh0 l crews (f2 100000)
theorem T1 (bA):(hid ct1) (fr1 bA)=f1 bA:=by
  refine (congrFun (am _) _).trans <| (P1 bA).trans ?_
  show _=sh1 bA
  rfl
theorem T2:∀ (n:Nat),∀ l0 bA eA fA dA,it2 (hid ct1) n (fr2 l0 bA eA fA dA)=f2 n l0 bA eA fA dA:=by
  intro n
  induction n with
  | zero=>intros; rfl
  | succ n ih =>
    intro l0 bA eA fA dA
    refine (P2 l0 bA eA fA dA (hid ct1) (it2 (hid ct1) n)).trans ?_
    show _=sh2 l0 bA eA fA dA f1 (f2 n)
    simp only [T1,ih]
theorem H2 (l0 bA eA fA dA):hid (it2 (hid ct1) 100000) (fr2 l0 bA eA fA dA)=f2 100000 l0 bA eA fA dA:=(congrFun (am _) _).trans (T2 100000 l0 bA eA fA dA)
theorem T0 (l crews):ak X bd (.seq none .d (.seq none .d (.seq none .d (.seq (some nm1) (.seq none .d (.block (.loop nm2 .d))) .d)))) (fr0 l crews) RR (fun _ _=>none) RR=f0 l crews:=by
  refine (P0 l crews).trans ?_
  show _=sh0 l crews (f2 100000)
  simp only [H2]
theorem run (l crews):bg X bd (.seq none .d (.seq none .d (.seq none .d (.seq (some nm1) (.seq none .d (.block (.loop nm2 .d))) .d)))) nmR [4,5] [] [(.lst .work l),(.int .i64 crews)]=f0 l crews:=T0 l crews
theorem loop (l:List Work) (es:List Int) (hl:l.length≤100) (he:es.length=l.length):∀ (n k:Nat) (s:Int),l.length < n+k→k≤l.length→f2 n l s es (Int.ofNat es.length) (k:Int)=rz (rZ l es (l.length - k) k s) 0:=by
  intro n
  induction n with
  | zero=>intro i m h1 h2; omega
  | succ n ih =>
    intro k s h1 h2
    show sh2 l s es (Int.ofNat es.length) (k:Int) f1 (f2 n)=_
    unfold sh2
    by_cases hk:k < l.length
    · rw [bw (by simp; omega), aZ (show k < es.length by omega), aZ hk, ac, bo k (by omega), show l.length - k = (l.length - (k + 1)) + 1 by omega, cH, cS, cS]
      exact ih (k+1) _ (by omega) hk
    · have : k = l.length := by omega
      subst this
      rw [bp (by simp; omega),Nat.sub_self,bV]
      rfl
theorem f0_eq (l:List Work) (crews:Int) (h:okV l=true):f0 l crews=rz (la l crews) (ld l crews):=by
  show sh0 l crews (f2 100000)=_
  unfold sh0 la ld
  rw [h,cS]
  cases hv:aQ l crews with
  | false=>rfl
  | true =>
    rw [(oS h hv).1]
    have hl:=(aR hv).len
    exact loop l (ec l) hl (qb l) 100000 0 0 (by omega) (by omega)
theorem ok:CtxOk Try.prog X:=aU tab (spC valid.spOk (spC late.spOk (spC earliest.spOk spN))) dpN
theorem okM:MOk Try.prog X:=fun g sp h=>by cases h
theorem spec (l:List Work) (crews:Int) (h:(okV l)=true):az Try.prog E 19 [(.lst .work l),(.int .i64 crews)] (.tup [(.int .i64 (la l crews)),(.int .i64 (ld l crews))]) [] :=
  aq ok okM Try.call19 Try.func19 (by kernel_rfl) (by kernel_rfl) (by kernel_rfl) (by show 2≤31; decide) (by decide) (by rfl) ((run l crews).trans (f0_eq l crews h))
noncomputable def sp:Sp U El:=fun args k=>match args with
  | [.lst .work l,.int .i64 crews]=>chk (okV l) (k (.tup [(.int .i64 (la l crews)),(.int .i64 (ld l crews))]) [])
  | _=>none
theorem spOk:SpOk Try.prog E 19 sp where
  det:=fun vs=>by
    unfold sp
    split
    · exact bz _ _ _
    · exact ⟨none,fun _=>rfl⟩
  ok:=fun vs k r h=>by
    unfold sp at h
    split at h
    · obtain ⟨h1, h2⟩ := ab h
      exact ⟨_,_,spec _ _ h1,h2⟩
    · cases h
end bound
end Go.Proofs.Ythdklallcljhlaa
