/- The first fault of a slot. -/
import Derived.Test.YthdklallcljhlaaVE
namespace Go.Proofs.Ythdklallcljhlaa
set_option linter.unusedSectionVars false
set_option linter.unusedSimpArgs false
set_option linter.unusedVariables false
set_option maxRecDepth 100000
noncomputable def meetB (l:List Work) (p:List Slot) (i k:Nat):Bool := !((k:Int) == (i:Int))&&(!(ile ((List.getD p i d_slot).ss+(List.getD l i d_work).wh) (List.getD p k d_slot).ss) && !(ile (List.getD p k d_slot).ss ((List.getD p i d_slot).ss - (List.getD l k d_work).wh)))
noncomputable def crewB (l:List Work) (p:List Slot) (i k:Nat):Bool:=meetB l p i k&&((List.getD p k d_slot).sc == (List.getD p i d_slot).sc)
noncomputable def streB (l:List Work) (p:List Slot) (i k:Nat):Bool:=meetB l p i k&&(!((List.getD l i d_work).ws == ([]:List UInt8))&&((List.getD l k d_work).ws == (List.getD l i d_work).ws))
def anyF (f:Nat→Bool):Nat→Nat→Bool
  | 0,_=>false
  | n+1,k=>f k||anyF f n (k+1)
noncomputable def ordB (l:List Work) (p:List Slot) (i:Nat) (a:Int):Bool:=ilt ((List.getD p i d_slot).ss - (List.getD l (Int.toNat a) d_work).wh) (List.getD p (Int.toNat a) d_slot).ss
noncomputable def faultN (l:List Work) (p:List Slot) (i:Nat):Int :=
  bif (List.getD p i d_slot).sw != (i:Int) then 25 else bif !(List.any (List.getD l i d_work).wc (eqInt (List.getD p i d_slot).sc)) then 11 else bif !(ile 0 (List.getD p i d_slot).ss&&ile (List.getD p i d_slot).ss 1000000) then 2 else bif List.any (List.getD l i d_work).wa (ordB l p i) then 17 else bif anyF (crewB l p i) l.length 0 then 10 else bif anyF (streB l p i) l.length 0 then 15 else 0
noncomputable def okF (l:List Work) (p:List Slot) (i:Int):Bool:=okO l&&(List.all l (fun w=>nle w.wc.length 90000&&(ile 0 w.wh&&ile w.wh 1000))&&(Nat.beq p.length l.length&&inb i l.length))
noncomputable def endZ (l:List Work) (s:Slot):Int:=IntKind.wrap .i64 (s.ss+(List.getD l (Int.toNat s.sw) d_work).wh)
structure FF (l:List Work) (p:List Slot) (i:Nat):Prop where
  n:l.length≤90000
  lp:p.length=l.length
  hi:i < l.length
  wh:∀ k,k < l.length→0≤(List.getD l k d_work).wh∧(List.getD l k d_work).wh≤1000
  wc:(List.getD l i d_work).wc.length≤90000
  wa:(List.getD l i d_work).wa.length≤90000
  ain:∀ a∈(List.getD l i d_work).wa,inb a l.length=true
theorem okF_of {l:List Work} {p:List Slot} {i:Int} (h:okF l p i=true):∃ q:Nat,i=(q:Int)∧FF l p q:=by
  simp only [okF,Bool.and_eq_true] at h
  obtain ⟨h1,h2,h3,h4⟩:=h
  obtain ⟨g1,g2⟩:=okO_len h1
  simp only [inb,Bool.and_eq_true] at h4
  obtain ⟨q,rfl⟩:=Int.eq_ofNat_of_zero_le (ileI h4.1)
  have hq:q < l.length:=by have:=iltI h4.2; simp at this; omega
  have hall:=fun k (hk:k < l.length)=>by
    have:=List.all_eq_true.1 h2 _ (List.getElem_mem hk)
    simp only [Bool.and_eq_true] at this
    exact this
  refine ⟨q,rfl,g1,Nat.eq_of_beq_eq_true h3,hq,fun k hk => ?_,?_,?_,?_⟩
  · rw [getD_lt hk]; exact ⟨ileI (hall k hk).2.1,ileI (hall k hk).2.2⟩
  · rw [getD_lt hq]; exact nleI (hall q hq).1
  · rw [getD_lt hq]; exact (g2 _ (List.getElem_mem hq)).1
  · rw [getD_lt hq]; exact (g2 _ (List.getElem_mem hq)).2
namespace rend
noncomputable def bd:Code:=(Try.f77.body).getD .skip
noncomputable def X:Ctx U El:=⟨E,tds,zeros,eqs,specOf [],100000,14,dspecOf [],fun _=>none⟩
noncomputable def nmR:Norm U:=⟨[],[4],[],[],[],[],[]⟩
noncomputable def RR:Kont U El:=fun st=>normK nmR st (retFin [4] [])
noncomputable def fr0 (l:List Work) (s:Slot):St U El:=⟨[(0,(.lst .work l)),(1,(.agg [(.int .i64 s.sw),(.int .i64 s.sc),(.int .i64 s.ss)]))],[]⟩
noncomputable def sh0 (l:List Work) (s:Slot):R :=
  chk (inb s.sw (List.length l)) (some ((.int .i64 (IntKind.wrap .i64 (s.ss+(List.getD l (Int.toNat s.sw) d_work).wh))),[]))
theorem P0 (l s):exec X (cdp [] bd) .d (fr0 l s) RR (fun _ _=>none) RR=sh0 l s:=by kernel_rfl
noncomputable def f0 (l:List Work) (s:Slot):R:=sh0 l s
theorem T0 (l s):exec X bd .d (fr0 l s) RR (fun _ _=>none) RR=f0 l s:=by
  refine (P0 l s).trans ?_
  show _=sh0 l s
  rfl
theorem run (l s):runFn X bd .d nmR [4] [] [(.lst .work l),(.agg [(.int .i64 s.sw),(.int .i64 s.sc),(.int .i64 s.ss)])]=f0 l s:=T0 l s
theorem f0_eq (l:List Work) (s:Slot) (h:inb (Slot.sw s) (List.length l)=true):f0 l s=outI (endZ l s):=by
  show sh0 l s=_
  unfold sh0
  rw [h]
  rfl
theorem ok:CtxOk Try.prog X:=ctxOk tab spN dpN
theorem okM:MOk Try.prog X:=fun g sp h=>by cases h
theorem spec (l:List Work) (s:Slot) (h:(inb (Slot.sw s) (List.length l))=true):CallSpec Try.prog E 77 [(.lst .work l),(.agg [(.int .i64 s.sw),(.int .i64 s.sc),(.int .i64 s.ss)])] (.int .i64 (endZ l s)) [] :=
  runFn_sound ok okM Try.call77 Try.func77 (by kernel_rfl) (by kernel_rfl) (by kernel_rfl) (by show 2≤14; decide) (by decide) (by rfl) ((run l s).trans (f0_eq l s h))
noncomputable def sp:Sp U El:=fun args k=>match args with
  | [.lst .work l,.agg [.int .i64 s_sw,.int .i64 s_sc,.int .i64 s_ss]]=>chk (inb (Slot.sw (⟨s_sw,s_sc,s_ss⟩:Slot)) (List.length l)) (k (.int .i64 (endZ l (⟨s_sw,s_sc,s_ss⟩:Slot))) [])
  | _=>none
theorem spOk:SpOk Try.prog E 77 sp where
  det:=fun vs=>by
    unfold sp
    split
    · exact det_c _ _ _
    · exact ⟨none,fun _=>rfl⟩
  ok:=fun vs k r h=>by
    unfold sp at h
    split at h
    · obtain ⟨h1, h2⟩ := chk_some h
      exact ⟨_,_,spec _ ⟨_,_,_⟩ h1,h2⟩
    · cases h
end rend
namespace rmeets
noncomputable def bd:Code:=(Try.f65.body).getD .skip
noncomputable def X:Ctx U El:=⟨E,tds,zeros,eqs,specOf [(77,rend.sp)],100000,21,dspecOf [],fun _=>none⟩
noncomputable def nmR:Norm U:=⟨[],[6],[],[],[],[],[]⟩
noncomputable def RR:Kont U El:=fun st=>normK nmR st (retFin [6] [])
noncomputable def fr0 (l:List Work) (a:Slot) (b:Slot):St U El:=⟨[(0,(.lst .work l)),(1,(.agg [(.int .i64 a.sw),(.int .i64 a.sc),(.int .i64 a.ss)])),(2,(.agg [(.int .i64 b.sw),(.int .i64 b.sc),(.int .i64 b.ss)]))],[]⟩
noncomputable def sh0 (l:List Work) (a:Slot) (b:Slot):R :=
  chk (inb (Slot.sw b) (List.length l)) (condB (ilt a.ss (endZ l b)) (chk (inb (Slot.sw a) (List.length l)) (some ((.bool (ilt b.ss (endZ l a))),[]))) (some ((.bool false),[])))
theorem P0 (l a b):exec X (cdp [] bd) .d (fr0 l a b) RR (fun _ _=>none) RR=sh0 l a b:=by kernel_rfl
noncomputable def f0 (l:List Work) (a:Slot) (b:Slot):R:=sh0 l a b
theorem T0 (l a b):exec X bd .d (fr0 l a b) RR (fun _ _=>none) RR=f0 l a b:=by
  refine (P0 l a b).trans ?_
  show _=sh0 l a b
  rfl
theorem run (l a b):runFn X bd .d nmR [6] [] [(.lst .work l),(.agg [(.int .i64 a.sw),(.int .i64 a.sc),(.int .i64 a.ss)]),(.agg [(.int .i64 b.sw),(.int .i64 b.sc),(.int .i64 b.ss)])]=f0 l a b:=T0 l a b
theorem f0_eq (l:List Work) (a b:Slot) (h:(inb (Slot.sw a) (List.length l)&&inb (Slot.sw b) (List.length l))=true):f0 l a b=outB (ilt (Slot.ss a) (endZ l b)&&ilt (Slot.ss b) (endZ l a)):=by
  simp only [Bool.and_eq_true] at h
  show sh0 l a b=_
  unfold sh0
  rw [h.1,h.2]
  exact cAnd outB _ _
theorem ok:CtxOk Try.prog X:=ctxOk tab (spC rend.spOk spN) dpN
theorem okM:MOk Try.prog X:=fun g sp h=>by cases h
theorem spec (l:List Work) (a:Slot) (b:Slot) (h:((inb (Slot.sw a) (List.length l)&&inb (Slot.sw b) (List.length l)))=true):CallSpec Try.prog E 65 [(.lst .work l),(.agg [(.int .i64 a.sw),(.int .i64 a.sc),(.int .i64 a.ss)]),(.agg [(.int .i64 b.sw),(.int .i64 b.sc),(.int .i64 b.ss)])] (.bool ((ilt (Slot.ss a) (endZ l b)&&ilt (Slot.ss b) (endZ l a)))) [] :=
  runFn_sound ok okM Try.call65 Try.func65 (by kernel_rfl) (by kernel_rfl) (by kernel_rfl) (by show 3≤21; decide) (by decide) (by rfl) ((run l a b).trans (f0_eq l a b h))
noncomputable def sp:Sp U El:=fun args k=>match args with
  | [.lst .work l,.agg [.int .i64 a_sw,.int .i64 a_sc,.int .i64 a_ss],.agg [.int .i64 b_sw,.int .i64 b_sc,.int .i64 b_ss]]=>chk ((inb (Slot.sw (⟨a_sw,a_sc,a_ss⟩:Slot)) (List.length l)&&inb (Slot.sw (⟨b_sw,b_sc,b_ss⟩:Slot)) (List.length l))) (k (.bool ((ilt (Slot.ss (⟨a_sw,a_sc,a_ss⟩:Slot)) (endZ l (⟨b_sw,b_sc,b_ss⟩:Slot))&&ilt (Slot.ss (⟨b_sw,b_sc,b_ss⟩:Slot)) (endZ l (⟨a_sw,a_sc,a_ss⟩:Slot))))) [])
  | _=>none
theorem spOk:SpOk Try.prog E 65 sp where
  det:=fun vs=>by
    unfold sp
    split
    · exact det_c _ _ _
    · exact ⟨none,fun _=>rfl⟩
  ok:=fun vs k r h=>by
    unfold sp at h
    split at h
    · obtain ⟨h1, h2⟩ := chk_some h
      exact ⟨_,_,spec _ ⟨_,_,_⟩ ⟨_,_,_⟩ h1,h2⟩
    · cases h
end rmeets
end Go.Proofs.Ythdklallcljhlaa
