/- Depth of works; the cost of plans, the bound. -/
import Derived.Test.YthdklallcljhlaaVL
namespace Go.Proofs.Ythdklallcljhlaa
set_option linter.unusedSectionVars false
set_option linter.unusedSimpArgs false
set_option linter.unusedVariables false
set_option maxRecDepth 100000
theorem cnt_mono (f g:Nat→Bool):∀ xs:List Nat,(∀ a∈xs,f a=true→g a=true)→cntF (xs.map g)≤cntF (xs.map f):=by
  intro xs
  induction xs with
  | nil=>intro _; exact Nat.le_refl _
  | cons x xs ih =>
    intro h
    have h1:=ih fun a ha=>h a (List.mem_cons_of_mem _ ha)
    have h2:=h x (List.mem_cons_self ..)
    show (bif g x then 0 else 1)+cntF (xs.map g)≤(bif f x then 0 else 1)+cntF (xs.map f)
    cases hf:f x with
    | true=>rw [h2 hf,cond_true]; omega
    | false=>cases g x<;>simp<;>omega
theorem cnt_lt (f g:Nat→Bool):∀ xs:List Nat,(∀ a∈xs,f a=true→g a=true)→(∃ i∈xs,f i=false∧g i=true)→cntF (xs.map g) < cntF (xs.map f):=by
  intro xs
  induction xs with
  | nil=>rintro _ ⟨i,hi,_⟩; cases hi
  | cons x xs ih =>
    rintro h ⟨i,hi,h1,h2⟩
    have hm:=cnt_mono f g xs fun a ha=>h a (List.mem_cons_of_mem _ ha)
    show (bif g x then 0 else 1)+cntF (xs.map g) < (bif f x then 0 else 1)+cntF (xs.map f)
    rcases List.mem_cons.1 hi with rfl | hi
    · rw [h1,h2,cond_true,cond_false]; omega
    · have h3 := ih (fun a ha => h a (List.mem_cons_of_mem _ ha)) ⟨i, hi, h1, h2⟩
      have h4:=h x (List.mem_cons_self ..)
      cases hf:f x with
      | true=>rw [h4 hf,cond_true]; omega
      | false=>cases g x<;>simp<;>omega
theorem topo_acyc {l:List Work} (h:topoB l=true):Acyc l:=@of_decide_eq_true _ (Classical.propDecidable _) h
theorem topo_dep {l : List Work} (h : topoB l = true) (hin : ∀ w ∈ l, ∀ a ∈ w.wa, inb a l.length = true) : ∀ i : Nat, i < l.length → depB l l.length (i : Int) = true := by
  have ha:=topo_acyc h
  have key:∀ k,cntF ((List.range l.length).map fun i:Nat=>depB l k (i:Int))≤l.length - k:=by
    intro k
    induction k with
    | zero =>
      have:∀ xs:List Bool,cntF xs≤xs.length:=by
        intro xs
        induction xs with
        | nil=>exact Nat.le_refl _
        | cons b xs ih=>show (bif b then 0 else 1)+cntF xs≤xs.length+1; cases b<;>simp<;>omega
      exact Nat.le_trans (this _) (by simp)
    | succ k ih =>
      by_cases hp:0 < cntF ((List.range l.length).map fun i:Nat=>depB l k (i:Int))
      · obtain ⟨i, hi, h1, h2⟩ := stuck ha (dn := (List.range l.length).map fun i : Nat => depB l k (i : Int)) (by simp) hin hp
        have hg:∀ j,j < l.length→List.getD ((List.range l.length).map fun i:Nat=>depB l k (i:Int)) j d_bool=depB l k (j:Int):=fun j hj=>by
          rw [getD_lt (by simpa using hj)]; simp
        rw [hg i hi] at h1
        have h3:depB l (k+1) (i:Int)=true:=by
          rw [dep_one,toNat_nat,getD_lt hi]
          refine List.all_eq_true.2 fun a haa => ?_
          have hb:=hin _ (List.getElem_mem hi) a haa
          simp only [inb,Bool.and_eq_true] at hb
          obtain ⟨q,rfl⟩:=Int.eq_ofNat_of_zero_le (ileI hb.1)
          have q2:=iltI hb.2
          have h4:=List.all_eq_true.1 h2 _ haa
          rw [toNat_nat,hg q (by simp at q2; omega)] at h4
          exact h4
        have h5:=cnt_lt (fun i:Nat=>depB l k (i:Int)) (fun i:Nat=>depB l (k+1) (i:Int)) (List.range l.length) (fun a _ h=>dep_up l k _ h) ⟨i,List.mem_range.2 hi,h1,h3⟩
        omega
      · have h5 := cnt_mono (fun i : Nat => depB l k (i : Int)) (fun i : Nat => depB l (k + 1) (i : Int)) (List.range l.length) (fun a _ h => dep_up l k _ h)
        omega
  intro i hi
  have h0:=key l.length
  have:=cnt_zero _ (show cntF ((List.range l.length).map fun i:Nat=>depB l l.length (i:Int))=0 by omega) i (by simpa using hi)
  rw [getD_lt (by simpa using hi)] at this
  simpa using this
structure VV (l:List Work) (crews:Int):Prop where
  cr:1≤crews∧crews≤12
  len:l.length≤100
  good:goodW (Int.ofNat l.length) crews [] l=true
  topo:topoB l=true
theorem valid_of {l:List Work} {crews:Int} (h:validB l crews=true):VV l crews:=by
  simp only [validB,Bool.and_eq_true,Bool.not_eq_true'] at h
  obtain ⟨⟨h0,h0'⟩,h1,h2,h3⟩:=h
  have:=iltN h1
  exact ⟨⟨ileI h0,ileI h0'⟩,by simp at this; omega,h2,h3⟩
theorem valid_okE {l:List Work} {crews:Int} (hv:okV l=true) (h:validB l crews=true):okE l=true∧∀ i:Nat,i < l.length→depB l l.length (i:Int)=true:=by
  have hV:=valid_of h
  have hO:=good_okO hv hV.good
  have hd:=topo_dep hV.topo fun w hw=>((okO_len hO).2 w hw).2
  refine ⟨?_,hd⟩
  simp only [okE,Bool.and_eq_true]
  refine ⟨hO,nleT hV.len,List.all_eq_true.2 fun w hw => ?_,List.all_eq_true.2 fun i hi=>dep_le l hV.len (hd i (List.mem_range.1 hi))⟩
  obtain ⟨q1,q2⟩:=goodW_wh hV.good w hw
  rw [ileT q1,ileT q2]
  rfl
noncomputable def lateZ (w:Work) (e:Int):Int:=IntKind.wrap .i64 (w.wp * (bif ilt (0:Int) (IntKind.wrap .i64 (e - w.wd)) then (IntKind.wrap .i64 (e - w.wd)) else (0:Int)))
namespace late
noncomputable def bd:Code:=(Try.f46.body).getD .skip
noncomputable def X:Ctx U El:=⟨E,tds,zeros,eqs,specOf [],100000,13,dspecOf [],fun _=>none⟩
noncomputable def nmR:Norm U:=⟨[],[4],[],[],[],[],[]⟩
noncomputable def RR:Kont U El:=fun st=>normK nmR st (retFin [4] [])
noncomputable def fr0 (w:Work) (e:Int):St U El:=⟨[(0,(.agg [(.str w.wn),(.int .i64 w.wh),(.lst .int w.wc),(.str w.ws),(.lst .int w.wa),(.int .i64 w.wd),(.int .i64 w.wp)])),(1,(.int .i64 e))],[]⟩
noncomputable def sh0 (w:Work) (e:Int):R :=
  some ((.int .i64 (IntKind.wrap .i64 (w.wp * (bif ilt (0:Int) (IntKind.wrap .i64 (e - w.wd)) then (IntKind.wrap .i64 (e - w.wd)) else (0:Int))))),[])
theorem P0 (w e):exec X (cdp [] bd) .d (fr0 w e) RR (fun _ _=>none) RR=sh0 w e:=by kernel_rfl
noncomputable def f0 (w:Work) (e:Int):R:=sh0 w e
theorem T0 (w e):exec X bd .d (fr0 w e) RR (fun _ _=>none) RR=f0 w e:=by
  refine (P0 w e).trans ?_
  show _=sh0 w e
  rfl
theorem run (w e):runFn X bd .d nmR [4] [] [(.agg [(.str w.wn),(.int .i64 w.wh),(.lst .int w.wc),(.str w.ws),(.lst .int w.wa),(.int .i64 w.wd),(.int .i64 w.wp)]),(.int .i64 e)]=f0 w e:=T0 w e
theorem f0_eq (w:Work) (e:Int):f0 w e=outI (lateZ w e):=rfl
theorem ok:CtxOk Try.prog X:=ctxOk tab spN dpN
theorem okM:MOk Try.prog X:=fun g sp h=>by cases h
theorem spec (w:Work) (e:Int):CallSpec Try.prog E 46 [(.agg [(.str w.wn),(.int .i64 w.wh),(.lst .int w.wc),(.str w.ws),(.lst .int w.wa),(.int .i64 w.wd),(.int .i64 w.wp)]),(.int .i64 e)] (.int .i64 (lateZ w e)) [] :=
  runFn_sound ok okM Try.call46 Try.func46 (by kernel_rfl) (by kernel_rfl) (by kernel_rfl) (by show 2≤13; decide) (by decide) (by rfl) ((run w e).trans (f0_eq w e))
noncomputable def sp:Sp U El:=fun args k=>match args with
  | [.agg [.str w_wn,.int .i64 w_wh,.lst .int w_wc,.str w_ws,.lst .int w_wa,.int .i64 w_wd,.int .i64 w_wp],.int .i64 e]=>k (.int .i64 (lateZ (⟨w_wn,w_wh,w_wc,w_ws,w_wa,w_wd,w_wp⟩:Work) e)) []
  | _=>none
theorem spOk:SpOk Try.prog E 46 sp where
  det:=fun vs=>by
    unfold sp
    split
    · exact ⟨some (_,_),fun _=>rfl⟩
    · exact ⟨none,fun _=>rfl⟩
  ok:=fun vs k r h=>by
    unfold sp at h
    split at h
    · exact ⟨_,_,spec ⟨_,_,_,_,_,_,_⟩ _,h⟩
    · cases h
end late
namespace endc
noncomputable def bd:Code:=(Try.f47.body).getD .skip
noncomputable def X:Ctx U El:=⟨E,tds,zeros,eqs,specOf [],100000,14,dspecOf [],fun _=>none⟩
noncomputable def nmR:Norm U:=⟨[],[4],[],[],[],[],[]⟩
noncomputable def RR:Kont U El:=fun st=>normK nmR st (retFin [4] [])
noncomputable def fr0 (l:List Work) (s:Slot):St U El:=⟨[(0,(.lst .work l)),(1,(.agg [(.int .i64 s.sw),(.int .i64 s.sc),(.int .i64 s.ss)]))],[]⟩
noncomputable def sh0 (l:List Work) (s:Slot):R :=
  chk (inb s.sw (List.length l)) (some ((.int .i64 (IntKind.wrap .i64 (s.ss+(List.getD l (Int.toNat s.sw) d_work).wh))),[]))
theorem P0 (l s):exec X (cdp [] bd) .d (fr0 l s) RR (fun _ _=>none) RR=sh0 l s:=by kernel_rfl
noncomputable def f0 (l:List Work) (s:Slot):R:=sh0 l s
theorem T0 (l s):exec X bd .d (fr0 l s) RR (fun _ _=>none) RR=f0 l s:=by
  refine (P0 l s).trans ?_
  show _=sh0 l s
  rfl
theorem run (l s):runFn X bd .d nmR [4] [] [(.lst .work l),(.agg [(.int .i64 s.sw),(.int .i64 s.sc),(.int .i64 s.ss)])]=f0 l s:=T0 l s
theorem f0_eq (l:List Work) (s:Slot) (h:inb (Slot.sw s) (List.length l)=true):f0 l s=outI (endZ l s):=by
  show sh0 l s=_
  unfold sh0
  rw [h]
  rfl
theorem ok:CtxOk Try.prog X:=ctxOk tab spN dpN
theorem okM:MOk Try.prog X:=fun g sp h=>by cases h
theorem spec (l:List Work) (s:Slot) (h:(inb (Slot.sw s) (List.length l))=true):CallSpec Try.prog E 47 [(.lst .work l),(.agg [(.int .i64 s.sw),(.int .i64 s.sc),(.int .i64 s.ss)])] (.int .i64 (endZ l s)) [] :=
  runFn_sound ok okM Try.call47 Try.func47 (by kernel_rfl) (by kernel_rfl) (by kernel_rfl) (by show 2≤14; decide) (by decide) (by rfl) ((run l s).trans (f0_eq l s h))
noncomputable def sp:Sp U El:=fun args k=>match args with
  | [.lst .work l,.agg [.int .i64 s_sw,.int .i64 s_sc,.int .i64 s_ss]]=>chk (inb (Slot.sw (⟨s_sw,s_sc,s_ss⟩:Slot)) (List.length l)) (k (.int .i64 (endZ l (⟨s_sw,s_sc,s_ss⟩:Slot))) [])
  | _=>none
theorem spOk:SpOk Try.prog E 47 sp where
  det:=fun vs=>by
    unfold sp
    split
    · exact det_c _ _ _
    · exact ⟨none,fun _=>rfl⟩
  ok:=fun vs k r h=>by
    unfold sp at h
    split at h
    · obtain ⟨h1, h2⟩ := chk_some h
      exact ⟨_,_,spec _ ⟨_,_,_⟩ h1,h2⟩
    · cases h
end endc
noncomputable def costG (l:List Work) (p:List Slot):Nat→Nat→Int→Int
  | 0,_,s=>s
  | n+1,k,s=>costG l p n (k+1) (IntKind.wrap .i64 (s+lateZ (List.getD l k d_work) (endZ l (List.getD p k d_slot))))
noncomputable def costZ (l:List Work) (p:List Slot):Int:=costG l p p.length 0 0
noncomputable def costOk (l:List Work) (p:List Slot):Bool:=nle p.length 90000&&(Nat.beq p.length l.length&&List.all p (fun s=>inb s.sw l.length))
namespace cost
noncomputable def bd:Code:=(Try.f55.body).getD .skip
noncomputable def X:Ctx U El:=⟨E,tds,zeros,eqs,specOf [(46,late.sp),(47,endc.sp)],100000,27,dspecOf [],fun _=>none⟩
noncomputable def nmR:Norm U:=⟨[],[4],[],[],[],[],[]⟩
noncomputable def RR:Kont U El:=fun st=>normK nmR st (retFin [4] [])
noncomputable def nm1:Norm U:=⟨[],[5],[],[],[],[],[]⟩
noncomputable def nm2:Norm U:=⟨[],[0,5,8,9,10],[],[],[],[],[]⟩
abbrev Y1:=Int→R
abbrev Y2:=(List Work)→Int→(List Slot)→Int→Int→R
noncomputable def fr0 (l:List Work) (p:List Slot):St U El:=⟨[(0,(.lst .work l)),(1,(.lst .slot p))],[]⟩
noncomputable def fr1 (aA:Int):St U El:=⟨[(5,(.int .i64 aA))],[]⟩
noncomputable def fr2 (l0:List Work) (aA:Int) (x8:List Slot) (x9:Int) (cA:Int):St U El:=⟨[(0,(.lst .work l0)),(5,(.int .i64 aA)),(8,(.lst .slot x8)),(9,(.int .i64 x9)),(10,(.int .i64 cA))],[]⟩
noncomputable def sh0 (l:List Work) (p:List Slot) (k2:Y2):R :=
  k2 l (0:Int) p (Int.ofNat (List.length p)) (0:Int)
noncomputable def sh1 (aA:Int):R :=
  some ((.int .i64 aA),[])
noncomputable def sh2 (l0:List Work) (aA:Int) (x8:List Slot) (x9:Int) (cA:Int) (k1:Y1) (k2:Y2):R :=
  condB (ilt cA x9) (chk (inb cA (List.length x8)) (chk (inb cA (List.length l0)) (chk (inb (Slot.sw (List.getD x8 (Int.toNat cA) d_slot)) (List.length l0)) (k2 l0 (IntKind.wrap .i64 (aA+(lateZ (List.getD l0 (Int.toNat cA) d_work) (endZ l0 (List.getD x8 (Int.toNat cA) d_slot))))) x8 x9 (IntKind.wrap .i64 (cA+(1:Int))))))) (k1 aA)
noncomputable def it2 (Kb1:Kont U El) (n:Nat):Kont U El:=iter nm2 (fun st' K'=>exec X (cdp [1,1,0,1,0,0] bd) .d st' K' (Eblk 0 (cutK nm1 Kb1) (fun _ _=>none)) RR) n
noncomputable def ct1:Kont U El:=fun st=>exec X (cdp [1,1,1] bd) .d st RR (fun _ _=>none) RR
theorem P0 (l p):exec X (cdp [] bd) (.seq none .d (.seq none .d (.seq (some nm1) (.seq none .d (.block (.loop nm2 .d))) .d))) (fr0 l p) RR (fun _ _=>none) RR=sh0 l p (fun y0 y1 y2 y3 y4=>(hid (it2 (hid ct1) 100000)) (fr2 y0 y1 y2 y3 y4)):=by kernel_rfl
theorem P1 (aA):ct1 (fr1 aA)=sh1 aA:=by kernel_rfl
theorem P2 (l0 aA x8 x9 cA) (Kb1 Kb2:Kont U El):exec X (cdp [1,1,0,1,0,0] bd) .d (fr2 l0 aA x8 x9 cA) (cutK nm2 Kb2) (Eblk 0 (cutK nm1 Kb1) (fun _ _=>none)) RR=sh2 l0 aA x8 x9 cA (fun y0=>Kb1 (fr1 y0)) (fun y0 y1 y2 y3 y4=>Kb2 (fr2 y0 y1 y2 y3 y4)):=by kernel_rfl
noncomputable def f1 (aA:Int):R:=sh1 aA
noncomputable def f2:Nat→Y2
  | 0=>fun _ _ _ _ _=>none
  | n+1=>fun l0 aA x8 x9 cA=>sh2 l0 aA x8 x9 cA f1 (f2 n)
noncomputable def f0 (l:List Work) (p:List Slot):R:=sh0 l p (f2 100000)
theorem T1 (aA):(hid ct1) (fr1 aA)=f1 aA:=by
  refine (congrFun (hid_eq _) _).trans <| (P1 aA).trans ?_
  show _=sh1 aA
  rfl
theorem T2:∀ (n:Nat),∀ l0 aA x8 x9 cA,it2 (hid ct1) n (fr2 l0 aA x8 x9 cA)=f2 n l0 aA x8 x9 cA:=by
  intro n
  induction n with
  | zero=>intros; rfl
  | succ n ih =>
    intro l0 aA x8 x9 cA
    refine (P2 l0 aA x8 x9 cA (hid ct1) (it2 (hid ct1) n)).trans ?_
    show _=sh2 l0 aA x8 x9 cA f1 (f2 n)
    simp only [T1,ih]
theorem H2 (l0 aA x8 x9 cA):hid (it2 (hid ct1) 100000) (fr2 l0 aA x8 x9 cA)=f2 100000 l0 aA x8 x9 cA:=(congrFun (hid_eq _) _).trans (T2 100000 l0 aA x8 x9 cA)
theorem T0 (l p):exec X bd (.seq none .d (.seq none .d (.seq (some nm1) (.seq none .d (.block (.loop nm2 .d))) .d))) (fr0 l p) RR (fun _ _=>none) RR=f0 l p:=by
  refine (P0 l p).trans ?_
  show _=sh0 l p (f2 100000)
  simp only [H2]
theorem run (l p):runFn X bd (.seq none .d (.seq none .d (.seq (some nm1) (.seq none .d (.block (.loop nm2 .d))) .d))) nmR [4] [] [(.lst .work l),(.lst .slot p)]=f0 l p:=T0 l p
theorem loop (l:List Work) (p:List Slot) (hl:p.length≤90000) (hlp:p.length=l.length) (hs:∀ s∈p,inb s.sw l.length=true):∀ (n k:Nat) (s:Int),p.length < n+k→k≤p.length→f2 n l s p (Int.ofNat p.length) (k:Int)=outI (costG l p (p.length - k) k s):=by
  intro n
  induction n with
  | zero=>intro i m h1 h2; omega
  | succ n ih =>
    intro k s h1 h2
    show sh2 l s p (Int.ofNat p.length) (k:Int) f1 (f2 n)=_
    unfold sh2
    by_cases hk:k < p.length
    · rw [iltT (by simp; omega), inbT hk, inbT (show k < l.length by omega), toNat_nat, show inb (Slot.sw (List.getD p k d_slot)) l.length = true by rw [getD_lt hk]; exact hs _ (List.getElem_mem hk), wrapS k (by omega), show p.length - k = (p.length - (k + 1)) + 1 by omega, condT, chkT, chkT, chkT]
      exact ih (k+1) _ (by omega) hk
    · have : k = p.length := by omega
      subst this
      rw [iltF (by simp),Nat.sub_self,condF]
      rfl
theorem f0_eq (l:List Work) (p:List Slot) (h:costOk l p=true):f0 l p=outI (costZ l p):=by
  simp only [costOk,Bool.and_eq_true] at h
  exact loop l p (nleI h.1) (Nat.eq_of_beq_eq_true h.2.1) (List.all_eq_true.1 h.2.2) 100000 0 0 (by have:=nleI h.1; omega) (by omega)
theorem ok:CtxOk Try.prog X:=ctxOk tab (spC late.spOk (spC endc.spOk spN)) dpN
theorem okM:MOk Try.prog X:=fun g sp h=>by cases h
theorem spec (l:List Work) (p:List Slot) (h:(costOk l p)=true):CallSpec Try.prog E 55 [(.lst .work l),(.lst .slot p)] (.int .i64 (costZ l p)) [] :=
  runFn_sound ok okM Try.call55 Try.func55 (by kernel_rfl) (by kernel_rfl) (by kernel_rfl) (by show 2≤27; decide) (by decide) (by rfl) ((run l p).trans (f0_eq l p h))
noncomputable def sp:Sp U El:=fun args k=>match args with
  | [.lst .work l,.lst .slot p]=>chk (costOk l p) (k (.int .i64 (costZ l p)) [])
  | _=>none
theorem spOk:SpOk Try.prog E 55 sp where
  det:=fun vs=>by
    unfold sp
    split
    · exact det_c _ _ _
    · exact ⟨none,fun _=>rfl⟩
  ok:=fun vs k r h=>by
    unfold sp at h
    split at h
    · obtain ⟨h1, h2⟩ := chk_some h
      exact ⟨_,_,spec _ _ h1,h2⟩
    · cases h
end cost
namespace checked
noncomputable def bd:Code:=(Try.f54.body).getD .skip
noncomputable def X:Ctx U El:=⟨E,tds,zeros,eqs,specOf [(11,check.sp)],100000,14,dspecOf [],fun _=>none⟩
noncomputable def nmR:Norm U:=⟨[],[4],[],[],[],[],[]⟩
noncomputable def RR:Kont U El:=fun st=>normK nmR st (retFin [4] [])
noncomputable def fr0 (l:List Work) (p:List Slot):St U El:=⟨[(0,(.lst .work l)),(1,(.lst .slot p))],[]⟩
noncomputable def sh0 (l:List Work) (p:List Slot):R :=
  chk (okV l) (some ((.int .i64 (checkE l (12:Int) p)),[]))
theorem P0 (l p):exec X (cdp [] bd) .d (fr0 l p) RR (fun _ _=>none) RR=sh0 l p:=by kernel_rfl
noncomputable def f0 (l:List Work) (p:List Slot):R:=sh0 l p
theorem T0 (l p):exec X bd .d (fr0 l p) RR (fun _ _=>none) RR=f0 l p:=by
  refine (P0 l p).trans ?_
  show _=sh0 l p
  rfl
theorem run (l p):runFn X bd .d nmR [4] [] [(.lst .work l),(.lst .slot p)]=f0 l p:=T0 l p
theorem f0_eq (l:List Work) (p:List Slot) (h:okV l=true):f0 l p=outI (checkE l 12 p):=by
  show sh0 l p=_
  unfold sh0
  rw [h]
  rfl
theorem ok:CtxOk Try.prog X:=ctxOk tab (spC check.spOk spN) dpN
theorem okM:MOk Try.prog X:=fun g sp h=>by cases h
theorem spec (l:List Work) (p:List Slot) (h:(okV l)=true):CallSpec Try.prog E 54 [(.lst .work l),(.lst .slot p)] (.int .i64 (checkE l 12 p)) [] :=
  runFn_sound ok okM Try.call54 Try.func54 (by kernel_rfl) (by kernel_rfl) (by kernel_rfl) (by show 2≤14; decide) (by decide) (by rfl) ((run l p).trans (f0_eq l p h))
noncomputable def sp:Sp U El:=fun args k=>match args with
  | [.lst .work l,.lst .slot p]=>chk (okV l) (k (.int .i64 (checkE l 12 p)) [])
  | _=>none
theorem spOk:SpOk Try.prog E 54 sp where
  det:=fun vs=>by
    unfold sp
    split
    · exact det_c _ _ _
    · exact ⟨none,fun _=>rfl⟩
  ok:=fun vs k r h=>by
    unfold sp at h
    split at h
    · obtain ⟨h1, h2⟩ := chk_some h
      exact ⟨_,_,spec _ _ h1,h2⟩
    · cases h
end checked
structure NoF (l:List Work) (p:List Slot) (i:Nat):Prop where
  sw:(List.getD p i d_slot).sw=(i:Int)
  s0:0≤(List.getD p i d_slot).ss
  s9:(List.getD p i d_slot).ss≤1000000
  ord:∀ a∈(List.getD l i d_work).wa,(List.getD p (Int.toNat a) d_slot).ss≤(List.getD p i d_slot).ss - (List.getD l (Int.toNat a) d_work).wh
theorem fault_no {l : List Work} {p : List Slot} {i : Nat} (h : faultN l p i = 0) : NoF l p i := by
  unfold faultN at h
  cases h1:((List.getD p i d_slot).sw != (i:Int)) with
  | true=>rw [h1,cond_true] at h; omega
  | false =>
    rw [h1,cond_false] at h
    cases h2:(!(List.any (List.getD l i d_work).wc (eqInt (List.getD p i d_slot).sc))) with
    | true=>rw [h2,cond_true] at h; omega
    | false =>
      rw [h2,cond_false] at h
      cases h3:(!(ile 0 (List.getD p i d_slot).ss&&ile (List.getD p i d_slot).ss 1000000)) with
      | true=>rw [h3,cond_true] at h; omega
      | false =>
        rw [h3,cond_false] at h
        cases h4:List.any (List.getD l i d_work).wa (ordB l p i) with
        | true=>rw [h4,cond_true] at h; omega
        | false =>
          simp only [Bool.not_eq_false',Bool.and_eq_true] at h3
          refine ⟨by simpa only [bne_eq_false_iff_eq] using h1,ileI h3.1,ileI h3.2,fun a ha => ?_⟩
          have:=List.any_eq_false.1 h4 a ha
          have h5:ordB l p i a=false:=by simpa using this
          have:=iltN h5
          omega
theorem findF_no {l : List Work} {p : List Slot} : ∀ (n k : Nat), (findF l p n k).1 = 0 → ∀ j, k ≤ j → j < k + n → faultN l p j = 0 := by
  intro n
  induction n with
  | zero=>intro k _ j h1 h2; omega
  | succ n ih =>
    intro k h j h1 h2
    simp only [findF] at h
    cases hb:(faultZ l p (k:Int) != 0) with
    | true =>
      rw [hb,cond_true] at h
      have h':faultZ l p (k:Int)=0:=h
      rw [h'] at hb
      cases hb
    | false =>
      rw [hb,cond_false] at h
      by_cases e:j=k
      · subst e
        have:faultZ l p (j:Int)=0:=by simpa only [bne_eq_false_iff_eq] using hb
        exact this
      · exact ih (k+1) h j (by omega) (by omega)
theorem findF_T {l:List Work} {p:List Slot}:∀ (n k:Nat),(∀ j,k≤j→j < k+n→faultN l p j=0)→findF l p n k=(0,-1):=by
  intro n
  induction n with
  | zero=>intro k _; rfl
  | succ n ih =>
    intro k h
    simp only [findF]
    have:faultZ l p (k:Int)=0:=h k (Nat.le_refl _) (by omega)
    rw [this]
    exact ih (k+1) fun j h1 h2=>h j (by omega) (by omega)
theorem check_no {l:List Work} {crews:Int} {p:List Slot} (h:checkE l crews p=0):validB l crews=true∧p.length=l.length∧∀ i,i < l.length→faultN l p i=0:=by
  unfold checkE checkP at h
  cases hv:validB l crews with
  | false=>rw [hv] at h; simp at h
  | true =>
    rw [hv] at h
    cases hne:(Int.ofNat p.length != Int.ofNat l.length) with
    | true=>rw [hne] at h; simp at h
    | false =>
      rw [hne] at h
      have hp:p.length=l.length:=Int.ofNat.inj (by simpa only [bne_eq_false_iff_eq] using hne)
      simp only [Bool.not_true,cond_false] at h
      exact ⟨rfl,hp,fun i hi=>findF_no _ _ h i (by omega) (by omega)⟩
theorem no_costOk {l:List Work} {crews:Int} {p:List Slot} (h:checkE l crews p=0):costOk l p=true:=by
  obtain ⟨hv,hp,hf⟩:=check_no h
  simp only [costOk,Bool.and_eq_true]
  refine ⟨nleT (by have:=(valid_of hv).len; omega),by rw [hp]; exact Nat.beq_refl _,List.all_eq_true.2 fun s hs => ?_⟩
  obtain ⟨i,hi,rfl⟩:=List.getElem_of_mem hs
  have:=(fault_no (hf i (by omega))).sw
  rw [getD_lt hi] at this
  rw [this]
  exact inbT (by omega)
noncomputable def costE (l:List Work) (p:List Slot):Int:=bif checkE l 12 p != 0 then 0 else costZ l p
noncomputable def outP2 (a b:Int):R:=some ((.tup [(.int .i64 a),(.int .i64 b)]),[])
namespace Costc
noncomputable def bd:Code:=(Try.f20.body).getD .skip
noncomputable def X:Ctx U El:=⟨E,tds,zeros,eqs,specOf [(54,checked.sp),(55,cost.sp)],100000,16,dspecOf [],fun _=>none⟩
noncomputable def nmR:Norm U:=⟨[],[4,5],[],[],[],[],[]⟩
noncomputable def RR:Kont U El:=fun st=>normK nmR st (retFin [4,5] [])
noncomputable def fr0 (l:List Work) (p:List Slot):St U El:=⟨[(0,(.lst .work l)),(1,(.lst .slot p))],[]⟩
noncomputable def sh0 (l:List Work) (p:List Slot):R :=
  chk (okV l) (condB ((checkE l 12 p) != (0:Int)) (some ((.tup [(.int .i64 (0:Int)),(.int .i64 (checkE l 12 p))]),[])) (chk (costOk l p) (some ((.tup [(.int .i64 (costZ l p)),(.int .i64 (0:Int))]),[]))))
theorem P0 (l p):exec X (cdp [] bd) .d (fr0 l p) RR (fun _ _=>none) RR=sh0 l p:=by kernel_rfl
noncomputable def f0 (l:List Work) (p:List Slot):R:=sh0 l p
theorem T0 (l p):exec X bd .d (fr0 l p) RR (fun _ _=>none) RR=f0 l p:=by
  refine (P0 l p).trans ?_
  show _=sh0 l p
  rfl
theorem run (l p):runFn X bd .d nmR [4,5] [] [(.lst .work l),(.lst .slot p)]=f0 l p:=T0 l p
theorem f0_eq (l:List Work) (p:List Slot) (h:okV l=true):f0 l p=outP2 (costE l p) (checkE l 12 p):=by
  show sh0 l p=_
  unfold sh0 costE
  rw [h,chkT]
  cases hc:(checkE l 12 p != 0) with
  | true=>rfl
  | false =>
    have h0:checkE l 12 p=0:=by simpa only [bne_eq_false_iff_eq] using hc
    rw [no_costOk h0,h0]
    rfl
theorem ok:CtxOk Try.prog X:=ctxOk tab (spC checked.spOk (spC cost.spOk spN)) dpN
theorem okM:MOk Try.prog X:=fun g sp h=>by cases h
theorem spec (l:List Work) (p:List Slot) (h:(okV l)=true):CallSpec Try.prog E 20 [(.lst .work l),(.lst .slot p)] (.tup [(.int .i64 (costE l p)),(.int .i64 (checkE l 12 p))]) [] :=
  runFn_sound ok okM Try.call20 Try.func20 (by kernel_rfl) (by kernel_rfl) (by kernel_rfl) (by show 2≤16; decide) (by decide) (by rfl) ((run l p).trans (f0_eq l p h))
noncomputable def sp:Sp U El:=fun args k=>match args with
  | [.lst .work l,.lst .slot p]=>chk (okV l) (k (.tup [(.int .i64 (costE l p)),(.int .i64 (checkE l 12 p))]) [])
  | _=>none
theorem spOk:SpOk Try.prog E 20 sp where
  det:=fun vs=>by
    unfold sp
    split
    · exact det_c _ _ _
    · exact ⟨none,fun _=>rfl⟩
  ok:=fun vs k r h=>by
    unfold sp at h
    split at h
    · obtain ⟨h1, h2⟩ := chk_some h
      exact ⟨_,_,spec _ _ h1,h2⟩
    · cases h
end Costc
noncomputable def bndG (l:List Work) (es:List Int):Nat→Nat→Int→Int
  | 0,_,s=>s
  | n+1,k,s=>bndG l es n (k+1) (IntKind.wrap .i64 (s+lateZ (List.getD l k d_work) (List.getD es k d_int)))
noncomputable def boundZ (l:List Work) (crews:Int):Int:=bif !(validB l crews) then 0 else bndG l (endsL l) l.length 0 0
noncomputable def boundE (l:List Work) (crews:Int):Int:=bif !(validB l crews) then 1 else 0
theorem ends_len (l:List Work):(endsL l).length=l.length:=by simp [endsL]
namespace bound
noncomputable def bd:Code:=(Try.f19.body).getD .skip
noncomputable def X:Ctx U El:=⟨E,tds,zeros,eqs,specOf [(13,valid.sp),(46,late.sp),(53,earliest.sp)],100000,31,dspecOf [],fun _=>none⟩
noncomputable def nmR:Norm U:=⟨[],[4,5],[],[],[],[],[]⟩
noncomputable def RR:Kont U El:=fun st=>normK nmR st (retFin [4,5] [])
noncomputable def nm1:Norm U:=⟨[],[6],[],[],[],[],[]⟩
noncomputable def nm2:Norm U:=⟨[],[0,6,14,15,16],[],[],[],[],[]⟩
abbrev Y1:=Int→R
abbrev Y2:=(List Work)→Int→(List Int)→Int→Int→R
noncomputable def fr0 (l:List Work) (crews:Int):St U El:=⟨[(0,(.lst .work l)),(1,(.int .i64 crews))],[]⟩
noncomputable def fr1 (bA:Int):St U El:=⟨[(6,(.int .i64 bA))],[]⟩
noncomputable def fr2 (l0:List Work) (bA:Int) (eA:List Int) (fA:Int) (dA:Int):St U El:=⟨[(0,(.lst .work l0)),(6,(.int .i64 bA)),(14,(.lst .int eA)),(15,(.int .i64 fA)),(16,(.int .i64 dA))],[]⟩
noncomputable def sh0 (l:List Work) (crews:Int) (k2:Y2):R :=
  chk (okV l) (condB (!(validB l crews)) (some ((.tup [(.int .i64 (0:Int)),(.int .i64 (1:Int))]),[])) (chk (okE l) (k2 l (0:Int) (endsL l) (Int.ofNat (List.length (endsL l))) (0:Int))))
noncomputable def sh1 (bA:Int):R :=
  some ((.tup [(.int .i64 bA),(.int .i64 (0:Int))]),[])
noncomputable def sh2 (l0:List Work) (bA:Int) (eA:List Int) (fA:Int) (dA:Int) (k1:Y1) (k2:Y2):R :=
  condB (ilt dA fA) (chk (inb dA (List.length eA)) (chk (inb dA (List.length l0)) (k2 l0 (IntKind.wrap .i64 (bA+(lateZ (List.getD l0 (Int.toNat dA) d_work) (List.getD eA (Int.toNat dA) d_int)))) eA fA (IntKind.wrap .i64 (dA+(1:Int)))))) (k1 bA)
noncomputable def it2 (Kb1:Kont U El) (n:Nat):Kont U El:=iter nm2 (fun st' K'=>exec X (cdp [1,1,1,0,1,0,0] bd) .d st' K' (Eblk 0 (cutK nm1 Kb1) (fun _ _=>none)) RR) n
noncomputable def ct1:Kont U El:=fun st=>exec X (cdp [1,1,1,1] bd) .d st RR (fun _ _=>none) RR
theorem P0 (l crews):exec X (cdp [] bd) (.seq none .d (.seq none .d (.seq none .d (.seq (some nm1) (.seq none .d (.block (.loop nm2 .d))) .d)))) (fr0 l crews) RR (fun _ _=>none) RR=sh0 l crews (fun y0 y1 y2 y3 y4=>(hid (it2 (hid ct1) 100000)) (fr2 y0 y1 y2 y3 y4)):=by kernel_rfl
theorem P1 (bA):ct1 (fr1 bA)=sh1 bA:=by kernel_rfl
theorem P2 (l0 bA eA fA dA) (Kb1 Kb2:Kont U El):exec X (cdp [1,1,1,0,1,0,0] bd) .d (fr2 l0 bA eA fA dA) (cutK nm2 Kb2) (Eblk 0 (cutK nm1 Kb1) (fun _ _=>none)) RR=sh2 l0 bA eA fA dA (fun y0=>Kb1 (fr1 y0)) (fun y0 y1 y2 y3 y4=>Kb2 (fr2 y0 y1 y2 y3 y4)):=by kernel_rfl
noncomputable def f1 (bA:Int):R:=sh1 bA
noncomputable def f2:Nat→Y2
  | 0=>fun _ _ _ _ _=>none
  | n+1=>fun l0 bA eA fA dA=>sh2 l0 bA eA fA dA f1 (f2 n)
noncomputable def f0 (l:List Work) (crews:Int):R:=sh0 l crews (f2 100000)
theorem T1 (bA):(hid ct1) (fr1 bA)=f1 bA:=by
  refine (congrFun (hid_eq _) _).trans <| (P1 bA).trans ?_
  show _=sh1 bA
  rfl
theorem T2:∀ (n:Nat),∀ l0 bA eA fA dA,it2 (hid ct1) n (fr2 l0 bA eA fA dA)=f2 n l0 bA eA fA dA:=by
  intro n
  induction n with
  | zero=>intros; rfl
  | succ n ih =>
    intro l0 bA eA fA dA
    refine (P2 l0 bA eA fA dA (hid ct1) (it2 (hid ct1) n)).trans ?_
    show _=sh2 l0 bA eA fA dA f1 (f2 n)
    simp only [T1,ih]
theorem H2 (l0 bA eA fA dA):hid (it2 (hid ct1) 100000) (fr2 l0 bA eA fA dA)=f2 100000 l0 bA eA fA dA:=(congrFun (hid_eq _) _).trans (T2 100000 l0 bA eA fA dA)
theorem T0 (l crews):exec X bd (.seq none .d (.seq none .d (.seq none .d (.seq (some nm1) (.seq none .d (.block (.loop nm2 .d))) .d)))) (fr0 l crews) RR (fun _ _=>none) RR=f0 l crews:=by
  refine (P0 l crews).trans ?_
  show _=sh0 l crews (f2 100000)
  simp only [H2]
theorem run (l crews):runFn X bd (.seq none .d (.seq none .d (.seq none .d (.seq (some nm1) (.seq none .d (.block (.loop nm2 .d))) .d)))) nmR [4,5] [] [(.lst .work l),(.int .i64 crews)]=f0 l crews:=T0 l crews
theorem loop (l:List Work) (es:List Int) (hl:l.length≤100) (he:es.length=l.length):∀ (n k:Nat) (s:Int),l.length < n+k→k≤l.length→f2 n l s es (Int.ofNat es.length) (k:Int)=outP2 (bndG l es (l.length - k) k s) 0:=by
  intro n
  induction n with
  | zero=>intro i m h1 h2; omega
  | succ n ih =>
    intro k s h1 h2
    show sh2 l s es (Int.ofNat es.length) (k:Int) f1 (f2 n)=_
    unfold sh2
    by_cases hk:k < l.length
    · rw [iltT (by simp; omega), inbT (show k < es.length by omega), inbT hk, toNat_nat, wrapS k (by omega), show l.length - k = (l.length - (k + 1)) + 1 by omega, condT, chkT, chkT]
      exact ih (k+1) _ (by omega) hk
    · have : k = l.length := by omega
      subst this
      rw [iltF (by simp; omega),Nat.sub_self,condF]
      rfl
theorem f0_eq (l:List Work) (crews:Int) (h:okV l=true):f0 l crews=outP2 (boundZ l crews) (boundE l crews):=by
  show sh0 l crews (f2 100000)=_
  unfold sh0 boundZ boundE
  rw [h,chkT]
  cases hv:validB l crews with
  | false=>rfl
  | true =>
    rw [(valid_okE h hv).1]
    have hl:=(valid_of hv).len
    exact loop l (endsL l) hl (ends_len l) 100000 0 0 (by omega) (by omega)
theorem ok:CtxOk Try.prog X:=ctxOk tab (spC valid.spOk (spC late.spOk (spC earliest.spOk spN))) dpN
theorem okM:MOk Try.prog X:=fun g sp h=>by cases h
theorem spec (l:List Work) (crews:Int) (h:(okV l)=true):CallSpec Try.prog E 19 [(.lst .work l),(.int .i64 crews)] (.tup [(.int .i64 (boundZ l crews)),(.int .i64 (boundE l crews))]) [] :=
  runFn_sound ok okM Try.call19 Try.func19 (by kernel_rfl) (by kernel_rfl) (by kernel_rfl) (by show 2≤31; decide) (by decide) (by rfl) ((run l crews).trans (f0_eq l crews h))
noncomputable def sp:Sp U El:=fun args k=>match args with
  | [.lst .work l,.int .i64 crews]=>chk (okV l) (k (.tup [(.int .i64 (boundZ l crews)),(.int .i64 (boundE l crews))]) [])
  | _=>none
theorem spOk:SpOk Try.prog E 19 sp where
  det:=fun vs=>by
    unfold sp
    split
    · exact det_c _ _ _
    · exact ⟨none,fun _=>rfl⟩
  ok:=fun vs k r h=>by
    unfold sp at h
    split at h
    · obtain ⟨h1, h2⟩ := chk_some h
      exact ⟨_,_,spec _ _ h1,h2⟩
    · cases h
end bound
end Go.Proofs.Ythdklallcljhlaa
