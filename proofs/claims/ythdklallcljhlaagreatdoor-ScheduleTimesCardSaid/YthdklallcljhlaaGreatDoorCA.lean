/- Costs of plans; eV of slots. -/
import Derived.Test.YthdklallcljhlaaGreatDoorVH
namespace Go.Proofs.YthdklallcljhlaaGreatDoor
set_option linter.unusedSectionVars false
set_option linter.unusedSimpArgs false
set_option linter.unusedVariables false
set_option maxRecDepth 100000
structure VV (l:List Work) (crews:Int):Prop where
  cr:1≤crews∧crews≤12
  len:l.length≤100
  good:cm (Int.ofNat l.length) crews [] l=true
  topo:eS l=true
theorem mn {l:List Work} {crews:Int} (h:cC l crews=true):VV l crews:=by
  simp only [cC,Bool.and_eq_true,Bool.not_eq_true'] at h
  obtain ⟨⟨h0,h0'⟩,h1,h2,h3⟩:=h
  have:=jX h1
  exact ⟨⟨gQ h0,gQ h0'⟩,by simp at this; omega,h2,h3⟩
namespace endc
noncomputable def bd:Code:=(Tryz.f34.body).getD .skip
noncomputable def X:Ctx U El:=⟨E,tds,zeros,eqs,aK [],100000,14,aC [],fun _=>none⟩
noncomputable def nmR:Norm U:=⟨[],[4],[],[],[],[],[]⟩
noncomputable def RR:ai U El:=fun st=>aN nmR st (aJ [4] [])
noncomputable def fr0 (l:List Work) (s:Slot):St U El:=⟨[(0,(.lst .work l)),(1,(.agg [(.int .i64 s.sw),(.int .i64 s.sc),(.int .i64 s.ss)]))],[]⟩
noncomputable def sh0 (l:List Work) (s:Slot):R :=
  chk (inb s.sw (List.length l)) (some ((.int .i64 (IntKind.wrap .i64 (s.ss+(List.getD l (Int.toNat s.sw) ac).wh))),[]))
theorem P0 (l s):al X (cdp [] bd) .d (fr0 l s) RR (fun _ _=>none) RR=sh0 l s:=by kernel_rfl
noncomputable def f0 (l:List Work) (s:Slot):R:=sh0 l s
theorem T0 (l s):al X bd .d (fr0 l s) RR (fun _ _=>none) RR=f0 l s:=by
  refine (P0 l s).trans ?_
  show _=sh0 l s
  rfl
theorem run (l s):aY X bd .d nmR [4] [] [(.lst .work l),(.agg [(.int .i64 s.sw),(.int .i64 s.sc),(.int .i64 s.ss)])]=f0 l s:=T0 l s
theorem f0_eq (l:List Work) (s:Slot) (h:inb (Slot.sw s) (List.length l)=true):f0 l s=cW (bh l s):=by
  show sh0 l s=_
  unfold sh0
  rw [h]
  rfl
theorem ok:CtxOk Tryz.prog X:=aW tab spN dpN
theorem okM:MOk Tryz.prog X:=fun g sp h=>by cases h
theorem spec (l:List Work) (s:Slot) (h:(inb (Slot.sw s) (List.length l))=true):aq Tryz.prog E 34 [(.lst .work l),(.agg [(.int .i64 s.sw),(.int .i64 s.sc),(.int .i64 s.ss)])] (.int .i64 (bh l s)) [] :=
  ap ok okM Tryz.call34 Tryz.func34 (by kernel_rfl) (by kernel_rfl) (by kernel_rfl) (by show 2≤14; decide) (by decide) (by rfl) ((run l s).trans (f0_eq l s h))
noncomputable def sp:Sp U El:=fun args k=>match args with
  | [.lst .work l,.agg [.int .i64 s_sw,.int .i64 s_sc,.int .i64 s_ss]]=>chk (inb (Slot.sw (⟨s_sw,s_sc,s_ss⟩:Slot)) (List.length l)) (k (.int .i64 (bh l (⟨s_sw,s_sc,s_ss⟩:Slot))) [])
  | _=>none
theorem spOk:SpOk Tryz.prog E 34 sp where
  det:=fun vs=>by
    unfold sp
    split
    · exact bq _ _ _
    · exact ⟨none,fun _=>rfl⟩
  ok:=fun vs k r h=>by
    unfold sp at h
    split at h
    · obtain ⟨h1, h2⟩ := ab h
      exact ⟨_,_,spec _ ⟨_,_,_⟩ h1,h2⟩
    · cases h
end endc
namespace checked
noncomputable def bd:Code:=(Tryz.f32.body).getD .skip
noncomputable def X:Ctx U El:=⟨E,tds,zeros,eqs,aK [(17,check.sp)],100000,14,aC [],fun _=>none⟩
noncomputable def nmR:Norm U:=⟨[],[4],[],[],[],[],[]⟩
noncomputable def RR:ai U El:=fun st=>aN nmR st (aJ [4] [])
noncomputable def fr0 (l:List Work) (p:List Slot):St U El:=⟨[(0,(.lst .work l)),(1,(.lst .slot p))],[]⟩
noncomputable def sh0 (l:List Work) (p:List Slot):R :=
  chk (okV l) (some ((.int .i64 (aL l (12:Int) p)),[]))
theorem P0 (l p):al X (cdp [] bd) .d (fr0 l p) RR (fun _ _=>none) RR=sh0 l p:=by kernel_rfl
noncomputable def f0 (l:List Work) (p:List Slot):R:=sh0 l p
theorem T0 (l p):al X bd .d (fr0 l p) RR (fun _ _=>none) RR=f0 l p:=by
  refine (P0 l p).trans ?_
  show _=sh0 l p
  rfl
theorem run (l p):aY X bd .d nmR [4] [] [(.lst .work l),(.lst .slot p)]=f0 l p:=T0 l p
theorem f0_eq (l:List Work) (p:List Slot) (h:okV l=true):f0 l p=cW (aL l 12 p):=by
  show sh0 l p=_
  unfold sh0
  rw [h]
  rfl
theorem ok:CtxOk Tryz.prog X:=aW tab (spC check.spOk spN) dpN
theorem okM:MOk Tryz.prog X:=fun g sp h=>by cases h
theorem spec (l:List Work) (p:List Slot) (h:(okV l)=true):aq Tryz.prog E 32 [(.lst .work l),(.lst .slot p)] (.int .i64 (aL l 12 p)) [] :=
  ap ok okM Tryz.call32 Tryz.func32 (by kernel_rfl) (by kernel_rfl) (by kernel_rfl) (by show 2≤14; decide) (by decide) (by rfl) ((run l p).trans (f0_eq l p h))
noncomputable def sp:Sp U El:=fun args k=>match args with
  | [.lst .work l,.lst .slot p]=>chk (okV l) (k (.int .i64 (aL l 12 p)) [])
  | _=>none
theorem spOk:SpOk Tryz.prog E 32 sp where
  det:=fun vs=>by
    unfold sp
    split
    · exact bq _ _ _
    · exact ⟨none,fun _=>rfl⟩
  ok:=fun vs k r h=>by
    unfold sp at h
    split at h
    · obtain ⟨h1, h2⟩ := ab h
      exact ⟨_,_,spec _ _ h1,h2⟩
    · cases h
end checked
structure NoF (l:List Work) (p:List Slot) (i:Nat):Prop where
  sw:(List.getD p i ae).sw=(i:Int)
  s0:0≤(List.getD p i ae).ss
  s9:(List.getD p i ae).ss≤1000000
  ord:∀ a∈(List.getD l i ac).wa,(List.getD p (Int.toNat a) ae).ss≤(List.getD p i ae).ss - (List.getD l (Int.toNat a) ac).wh
theorem mo {l : List Work} {p : List Slot} {i : Nat} (h : en l p i = 0) : NoF l p i := by
  unfold en at h
  cases h1:((List.getD p i ae).sw != (i:Int)) with
  | true=>rw [h1,cond_true] at h; omega
  | false =>
    rw [h1,cond_false] at h
    cases h2:(!(List.any (List.getD l i ac).wc (cS (List.getD p i ae).sc))) with
    | true=>rw [h2,cond_true] at h; omega
    | false =>
      rw [h2,cond_false] at h
      cases h3:(!(ile 0 (List.getD p i ae).ss&&ile (List.getD p i ae).ss 1000000)) with
      | true=>rw [h3,cond_true] at h; omega
      | false =>
        rw [h3,cond_false] at h
        cases h4:List.any (List.getD l i ac).wa (ml l p i) with
        | true=>rw [h4,cond_true] at h; omega
        | false =>
          simp only [Bool.not_eq_false',Bool.and_eq_true] at h3
          refine ⟨by simpa only [bne_eq_false_iff_eq] using h1,gQ h3.1,gQ h3.2,fun a ha => ?_⟩
          have:=List.any_eq_false.1 h4 a ha
          have h5:ml l p i a=false:=by simpa using this
          have:=jX h5
          omega
theorem qb {l : List Work} {p : List Slot} : ∀ (n k : Nat), (kj l p n k).1 = 0 → ∀ j, k ≤ j → j < k + n → en l p j = 0 := by
  intro n
  induction n with
  | zero=>intro k _ j h1 h2; omega
  | succ n ih =>
    intro k h j h1 h2
    simp only [kj] at h
    cases hb:(cQ l p (k:Int) != 0) with
    | true =>
      rw [hb,cond_true] at h
      have h':cQ l p (k:Int)=0:=h
      rw [h'] at hb
      cases hb
    | false =>
      rw [hb,cond_false] at h
      by_cases e:j=k
      · subst e
        have:cQ l p (j:Int)=0:=by simpa only [bne_eq_false_iff_eq] using hb
        exact this
      · exact ih (k+1) h j (by omega) (by omega)
theorem gl {l:List Work} {crews:Int} {p:List Slot} (h:aL l crews p=0):cC l crews=true∧p.length=l.length∧∀ i,i < l.length→en l p i=0:=by
  unfold aL kW at h
  cases hv:cC l crews with
  | false=>rw [hv] at h; simp at h
  | true =>
    rw [hv] at h
    cases hne:(Int.ofNat p.length != Int.ofNat l.length) with
    | true=>rw [hne] at h; simp at h
    | false =>
      rw [hne] at h
      have hp:p.length=l.length:=Int.ofNat.inj (by simpa only [bne_eq_false_iff_eq] using hne)
      simp only [Bool.not_true,cond_false] at h
      exact ⟨rfl,hp,fun i hi=>qb _ _ h i (by omega) (by omega)⟩
noncomputable def rC (a b:Int):R:=some ((.tup [(.int .i64 a),(.int .i64 b)]),[])
namespace cloneS
noncomputable def bd:Code:=(Tryz.f41.body).getD .skip
noncomputable def X:Ctx U El:=⟨E,tds,zeros,eqs,aK [],100000,8,aC [],fun _=>none⟩
noncomputable def nmR:Norm U:=⟨[(2,.slot)],[2],[2],[],[],[],[]⟩
noncomputable def RR:ai U El:=fun st=>aN nmR st (aJ [2] [2])
noncomputable def fr0 (l:List Slot):St U El:=⟨[(0,(.lst .slot l))],[]⟩
noncomputable def sh0 (l:List Slot):R :=
  aj (nlt 0 (List.length l)) (chk (nle ((List.length ([]:List Slot)+List.length l) * 24) 140737488355328&&nle (List.length ([]:List Slot)+List.length l) 9223372036854775807) (some ((.ful 0),[(0,.rows .slot (([]:List Slot)++l))]))) (amb (some ((.ful 0),[(0,.rows .slot ([]:List Slot))])) (chk (nle ((List.length ([]:List Slot)+List.length l) * 24) 140737488355328&&nle (List.length ([]:List Slot)+List.length l) 9223372036854775807) (some ((.ful 0),[(0,.rows .slot (([]:List Slot)++l))]))))
theorem P0 (l):al X (cdp [] bd) .d (fr0 l) RR (fun _ _=>none) RR=sh0 l:=by kernel_rfl
noncomputable def f0 (l:List Slot):R:=sh0 l
theorem T0 (l):al X bd .d (fr0 l) RR (fun _ _=>none) RR=f0 l:=by
  refine (P0 l).trans ?_
  show _=sh0 l
  rfl
theorem run (l):aY X bd .d nmR [2] [2] [(.lst .slot l)]=f0 l:=T0 l
theorem f0_eq (l:List Slot) (h:(nle (List.length l) 90000)=true):f0 l=some ((.ful 0),[(0,.rows .slot l)]):=by
  have hl:=du h
  show sh0 l=_
  unfold sh0
  have e1:nle ((List.length ([]:List Slot)+List.length l) * 24) 140737488355328=true:=b7 (by simp; omega)
  have e2:nle (List.length ([]:List Slot)+List.length l) 9223372036854775807=true:=b7 (by simp; omega)
  rw [e1,e2]
  cases l with
  | nil=>exact ph _
  | cons x l=>rfl
theorem ok:CtxOk Tryz.prog X:=aW tab spN dpN
theorem okM:MOk Tryz.prog X:=fun g sp h=>by cases h
theorem spec (l:List Slot) (h:(nle (List.length l) 90000)=true):aq Tryz.prog E 41 [(.lst .slot l)] (.ful 0) [(0,.rows .slot (l))] :=
  ap ok okM Tryz.call41 Tryz.func41 (by kernel_rfl) (by kernel_rfl) (by kernel_rfl) (by show 1≤8; decide) (by decide) (by rfl) ((run l).trans (f0_eq l h))
noncomputable def sp:Sp U El:=fun args k=>match args with
  | [.lst .slot l]=>chk (nle (List.length l) 90000) (k (.ful 0) [(0,.rows .slot (l))])
  | _=>none
theorem spOk:SpOk Tryz.prog E 41 sp where
  det:=fun vs=>by
    unfold sp
    split
    · exact bq _ _ _
    · exact ⟨none,fun _=>rfl⟩
  ok:=fun vs k r h=>by
    unfold sp at h
    split at h
    · obtain ⟨h1, h2⟩ := ab h
      exact ⟨_,_,spec _ h1,h2⟩
    · cases h
end cloneS
namespace isnan
noncomputable def bd:Code:=(Tryz.f71.body).getD .skip
noncomputable def X:Ctx U El:=⟨E,tds,zeros,eqs,aK [],100000,6,aC [],fun _=>none⟩
noncomputable def nmR:Norm U:=⟨[],[2],[],[],[],[],[]⟩
noncomputable def RR:ai U El:=fun st=>aN nmR st (aJ [2] [])
noncomputable def fr0 (x:Int):St U El:=⟨[(0,(.int .i64 x))],[]⟩
noncomputable def sh0 (x:Int):R :=
  some ((.bool (x != x)),[])
theorem P0 (x):al X (cdp [] bd) .d (fr0 x) RR (fun _ _=>none) RR=sh0 x:=by kernel_rfl
noncomputable def f0 (x:Int):R:=sh0 x
theorem T0 (x):al X bd .d (fr0 x) RR (fun _ _=>none) RR=f0 x:=by
  refine (P0 x).trans ?_
  show _=sh0 x
  rfl
theorem run (x):aY X bd .d nmR [2] [] [(.int .i64 x)]=f0 x:=T0 x
theorem f0_eq (x:Int):f0 x=bz false:=by
  show bz (x != x)=_
  simp
theorem ok:CtxOk Tryz.prog X:=aW tab spN dpN
theorem okM:MOk Tryz.prog X:=fun g sp h=>by cases h
theorem spec (x:Int):aq Tryz.prog E 71 [(.int .i64 x)] (.bool (false)) [] :=
  ap ok okM Tryz.call71 Tryz.func71 (by kernel_rfl) (by kernel_rfl) (by kernel_rfl) (by show 1≤6; decide) (by decide) (by rfl) ((run x).trans (f0_eq x))
noncomputable def sp:Sp U El:=fun args k=>match args with
  | [.int .i64 x]=>k (.bool (false)) []
  | _=>none
theorem spOk:SpOk Tryz.prog E 71 sp where
  det:=fun vs=>by
    unfold sp
    split
    · exact ⟨some (_,_),fun _=>rfl⟩
    · exact ⟨none,fun _=>rfl⟩
  ok:=fun vs k r h=>by
    unfold sp at h
    split at h
    · exact ⟨_,_,spec _,h⟩
    · cases h
end isnan
namespace cmpI
noncomputable def bd:Code:=(Tryz.f37.body).getD .skip
noncomputable def X:Ctx U El:=⟨E,tds,zeros,eqs,aK [(71,isnan.sp)],100000,20,aC [],fun _=>none⟩
noncomputable def nmR:Norm U:=⟨[],[4],[],[],[],[],[]⟩
noncomputable def RR:ai U El:=fun st=>aN nmR st (aJ [4] [])
noncomputable def fr0 (x:Int) (y:Int):St U El:=⟨[(0,(.int .i64 x)),(1,(.int .i64 y))],[]⟩
noncomputable def sh0 (x:Int) (y:Int):R :=
  aj (false) (aj (false) (some ((.int .i64 (0:Int)),[])) (some ((.int .i64 (-1:Int)),[]))) (aj (false) (some ((.int .i64 (1:Int)),[])) (aj (ilt x y) (some ((.int .i64 (-1:Int)),[])) (aj (ilt y x) (some ((.int .i64 (1:Int)),[])) (some ((.int .i64 (0:Int)),[])))))
theorem P0 (x y):al X (cdp [] bd) .d (fr0 x y) RR (fun _ _=>none) RR=sh0 x y:=by kernel_rfl
noncomputable def f0 (x:Int) (y:Int):R:=sh0 x y
theorem T0 (x y):al X bd .d (fr0 x y) RR (fun _ _=>none) RR=f0 x y:=by
  refine (P0 x y).trans ?_
  show _=sh0 x y
  rfl
theorem run (x y):aY X bd .d nmR [4] [] [(.int .i64 x),(.int .i64 y)]=f0 x y:=T0 x y
theorem f0_eq (x y:Int):f0 x y=cW (cj x y):=by
  show sh0 x y=_
  unfold sh0 cj
  cases ilt x y<;>cases ilt y x<;>rfl
theorem ok:CtxOk Tryz.prog X:=aW tab (spC isnan.spOk spN) dpN
theorem okM:MOk Tryz.prog X:=fun g sp h=>by cases h
theorem spec (x:Int) (y:Int):aq Tryz.prog E 37 [(.int .i64 x),(.int .i64 y)] (.int .i64 (cj x y)) [] :=
  ap ok okM Tryz.call37 Tryz.func37 (by kernel_rfl) (by kernel_rfl) (by kernel_rfl) (by show 2≤20; decide) (by decide) (by rfl) ((run x y).trans (f0_eq x y))
noncomputable def sp:Sp U El:=fun args k=>match args with
  | [.int .i64 x,.int .i64 y]=>k (.int .i64 (cj x y)) []
  | _=>none
theorem spOk:SpOk Tryz.prog E 37 sp where
  det:=fun vs=>by
    unfold sp
    split
    · exact ⟨some (_,_),fun _=>rfl⟩
    · exact ⟨none,fun _=>rfl⟩
  ok:=fun vs k r h=>by
    unfold sp at h
    split at h
    · exact ⟨_,_,spec _ _,h⟩
    · cases h
end cmpI
namespace clCmp
noncomputable def bd:Code:=(Tryz.f36.body).getD .skip
noncomputable def X:Ctx U El:=⟨E,tds,zeros,eqs,aK [(37,cmpI.sp)],100000,10,aC [],fun _=>none⟩
noncomputable def nmR:Norm U:=⟨[],[4],[],[],[],[],[]⟩
noncomputable def RR:ai U El:=fun st=>aN nmR st (aJ [4] [])
noncomputable def fr0 (a:Span) (b:Span):St U El:=⟨[(0,(.agg [(.int .i64 a.slo),(.int .i64 a.shi)])),(1,(.agg [(.int .i64 b.slo),(.int .i64 b.shi)]))],[]⟩
noncomputable def sh0 (a:Span) (b:Span):R :=
  some ((.int .i64 (cj a.slo b.slo)),[])
theorem P0 (a b):al X (cdp [] bd) .d (fr0 a b) RR (fun _ _=>none) RR=sh0 a b:=by kernel_rfl
noncomputable def f0 (a:Span) (b:Span):R:=sh0 a b
theorem T0 (a b):al X bd .d (fr0 a b) RR (fun _ _=>none) RR=f0 a b:=by
  refine (P0 a b).trans ?_
  show _=sh0 a b
  rfl
theorem run (a b):aY X bd .d nmR [4] [] [(.agg [(.int .i64 a.slo),(.int .i64 a.shi)]),(.agg [(.int .i64 b.slo),(.int .i64 b.shi)])]=f0 a b:=T0 a b
theorem f0_eq (a b:Span):f0 a b=cW (cj a.slo b.slo):=rfl
theorem ok:CtxOk Tryz.prog X:=aW tab (spC cmpI.spOk spN) dpN
theorem okM:MOk Tryz.prog X:=fun g sp h=>by cases h
theorem spec (a:Span) (b:Span):aq Tryz.prog E 36 [(.agg [(.int .i64 a.slo),(.int .i64 a.shi)]),(.agg [(.int .i64 b.slo),(.int .i64 b.shi)])] (.int .i64 (cj (Span.slo a) (Span.slo b))) [] :=
  ap ok okM Tryz.call36 Tryz.func36 (by kernel_rfl) (by kernel_rfl) (by kernel_rfl) (by show 2≤10; decide) (by decide) (by rfl) ((run a b).trans (f0_eq a b))
noncomputable def sp:Sp U El:=fun args k=>match args with
  | [.agg [.int .i64 a_slo,.int .i64 a_shi],.agg [.int .i64 b_slo,.int .i64 b_shi]]=>k (.int .i64 (cj (Span.slo (⟨a_slo,a_shi⟩:Span)) (Span.slo (⟨b_slo,b_shi⟩:Span)))) []
  | _=>none
theorem spOk:SpOk Tryz.prog E 36 sp where
  det:=fun vs=>by
    unfold sp
    split
    · exact ⟨some (_,_),fun _=>rfl⟩
    · exact ⟨none,fun _=>rfl⟩
  ok:=fun vs k r h=>by
    unfold sp at h
    split at h
    · exact ⟨_,_,spec ⟨_,_⟩ ⟨_,_⟩,h⟩
    · cases h
end clCmp
namespace frCmp
noncomputable def bd:Code:=(Tryz.f40.body).getD .skip
noncomputable def X:Ctx U El:=⟨E,tds,zeros,eqs,aK [(37,cmpI.sp)],100000,10,aC [],fun _=>none⟩
noncomputable def nmR:Norm U:=⟨[],[4],[],[],[],[],[]⟩
noncomputable def RR:ai U El:=fun st=>aN nmR st (aJ [4] [])
noncomputable def fr0 (a:Slot) (b:Slot):St U El:=⟨[(0,(.agg [(.int .i64 a.sw),(.int .i64 a.sc),(.int .i64 a.ss)])),(1,(.agg [(.int .i64 b.sw),(.int .i64 b.sc),(.int .i64 b.ss)]))],[]⟩
noncomputable def sh0 (a:Slot) (b:Slot):R :=
  some ((.int .i64 (cj a.ss b.ss)),[])
theorem P0 (a b):al X (cdp [] bd) .d (fr0 a b) RR (fun _ _=>none) RR=sh0 a b:=by kernel_rfl
noncomputable def f0 (a:Slot) (b:Slot):R:=sh0 a b
theorem T0 (a b):al X bd .d (fr0 a b) RR (fun _ _=>none) RR=f0 a b:=by
  refine (P0 a b).trans ?_
  show _=sh0 a b
  rfl
theorem run (a b):aY X bd .d nmR [4] [] [(.agg [(.int .i64 a.sw),(.int .i64 a.sc),(.int .i64 a.ss)]),(.agg [(.int .i64 b.sw),(.int .i64 b.sc),(.int .i64 b.ss)])]=f0 a b:=T0 a b
theorem f0_eq (a b:Slot):f0 a b=cW (cj a.ss b.ss):=rfl
theorem ok:CtxOk Tryz.prog X:=aW tab (spC cmpI.spOk spN) dpN
theorem okM:MOk Tryz.prog X:=fun g sp h=>by cases h
theorem spec (a:Slot) (b:Slot):aq Tryz.prog E 40 [(.agg [(.int .i64 a.sw),(.int .i64 a.sc),(.int .i64 a.ss)]),(.agg [(.int .i64 b.sw),(.int .i64 b.sc),(.int .i64 b.ss)])] (.int .i64 (cj (Slot.ss a) (Slot.ss b))) [] :=
  ap ok okM Tryz.call40 Tryz.func40 (by kernel_rfl) (by kernel_rfl) (by kernel_rfl) (by show 2≤10; decide) (by decide) (by rfl) ((run a b).trans (f0_eq a b))
noncomputable def sp:Sp U El:=fun args k=>match args with
  | [.agg [.int .i64 a_sw,.int .i64 a_sc,.int .i64 a_ss],.agg [.int .i64 b_sw,.int .i64 b_sc,.int .i64 b_ss]]=>k (.int .i64 (cj (Slot.ss (⟨a_sw,a_sc,a_ss⟩:Slot)) (Slot.ss (⟨b_sw,b_sc,b_ss⟩:Slot)))) []
  | _=>none
theorem spOk:SpOk Tryz.prog E 40 sp where
  det:=fun vs=>by
    unfold sp
    split
    · exact ⟨some (_,_),fun _=>rfl⟩
    · exact ⟨none,fun _=>rfl⟩
  ok:=fun vs k r h=>by
    unfold sp at h
    split at h
    · exact ⟨_,_,spec ⟨_,_,_⟩ ⟨_,_,_⟩,h⟩
    · cases h
end frCmp
namespace txCmp
noncomputable def bd:Code:=(Tryz.f43.body).getD .skip
noncomputable def X:Ctx U El:=⟨E,tds,zeros,eqs,aK [(37,cmpI.sp)],100000,10,aC [],fun _=>none⟩
noncomputable def nmR:Norm U:=⟨[],[4],[],[],[],[],[]⟩
noncomputable def RR:ai U El:=fun st=>aN nmR st (aJ [4] [])
noncomputable def fr0 (a:Slot) (b:Slot):St U El:=⟨[(0,(.agg [(.int .i64 a.sw),(.int .i64 a.sc),(.int .i64 a.ss)])),(1,(.agg [(.int .i64 b.sw),(.int .i64 b.sc),(.int .i64 b.ss)]))],[]⟩
noncomputable def sh0 (a:Slot) (b:Slot):R :=
  some ((.int .i64 (cj a.ss b.ss)),[])
theorem P0 (a b):al X (cdp [] bd) .d (fr0 a b) RR (fun _ _=>none) RR=sh0 a b:=by kernel_rfl
noncomputable def f0 (a:Slot) (b:Slot):R:=sh0 a b
theorem T0 (a b):al X bd .d (fr0 a b) RR (fun _ _=>none) RR=f0 a b:=by
  refine (P0 a b).trans ?_
  show _=sh0 a b
  rfl
theorem run (a b):aY X bd .d nmR [4] [] [(.agg [(.int .i64 a.sw),(.int .i64 a.sc),(.int .i64 a.ss)]),(.agg [(.int .i64 b.sw),(.int .i64 b.sc),(.int .i64 b.ss)])]=f0 a b:=T0 a b
theorem f0_eq (a b:Slot):f0 a b=cW (cj a.ss b.ss):=rfl
theorem ok:CtxOk Tryz.prog X:=aW tab (spC cmpI.spOk spN) dpN
theorem okM:MOk Tryz.prog X:=fun g sp h=>by cases h
theorem spec (a:Slot) (b:Slot):aq Tryz.prog E 43 [(.agg [(.int .i64 a.sw),(.int .i64 a.sc),(.int .i64 a.ss)]),(.agg [(.int .i64 b.sw),(.int .i64 b.sc),(.int .i64 b.ss)])] (.int .i64 (cj (Slot.ss a) (Slot.ss b))) [] :=
  ap ok okM Tryz.call43 Tryz.func43 (by kernel_rfl) (by kernel_rfl) (by kernel_rfl) (by show 2≤10; decide) (by decide) (by rfl) ((run a b).trans (f0_eq a b))
noncomputable def sp:Sp U El:=fun args k=>match args with
  | [.agg [.int .i64 a_sw,.int .i64 a_sc,.int .i64 a_ss],.agg [.int .i64 b_sw,.int .i64 b_sc,.int .i64 b_ss]]=>k (.int .i64 (cj (Slot.ss (⟨a_sw,a_sc,a_ss⟩:Slot)) (Slot.ss (⟨b_sw,b_sc,b_ss⟩:Slot)))) []
  | _=>none
theorem spOk:SpOk Tryz.prog E 43 sp where
  det:=fun vs=>by
    unfold sp
    split
    · exact ⟨some (_,_),fun _=>rfl⟩
    · exact ⟨none,fun _=>rfl⟩
  ok:=fun vs k r h=>by
    unfold sp at h
    split at h
    · exact ⟨_,_,spec ⟨_,_,_⟩ ⟨_,_,_⟩,h⟩
    · cases h
end txCmp
end Go.Proofs.YthdklallcljhlaaGreatDoor
