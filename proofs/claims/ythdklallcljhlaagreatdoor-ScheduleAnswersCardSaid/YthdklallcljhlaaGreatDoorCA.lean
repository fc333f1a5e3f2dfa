/- Costs of plans; order of slots. -/
import Derived.Test.YthdklallcljhlaaGreatDoorVH
namespace Go.Proofs.YthdklallcljhlaaGreatDoor
set_option linter.unusedSectionVars false
set_option linter.unusedSimpArgs false
set_option linter.unusedVariables false
set_option maxRecDepth 100000
structure VV (l:List Work) (crews:Int):Prop where
  cr:1≤crews∧crews≤12
  len:l.length≤100
  good:bL (Int.ofNat l.length) crews [] l=true
  topo:dZ l=true
theorem jy {l:List Work} {crews:Int} (h:bF l crews=true):VV l crews:=by
  simp only [bF,Bool.and_eq_true,Bool.not_eq_true'] at h
  obtain ⟨⟨h0,h0'⟩,h1,h2,h3⟩:=h
  have:=mb h1
  exact ⟨⟨dw h0,dw h0'⟩,by simp at this; omega,h2,h3⟩
noncomputable def jz (w:Work) (e:Int):Int:=IntKind.wrap .i64 (w.wp * (bif ilt (0:Int) (IntKind.wrap .i64 (e - w.wd)) then (IntKind.wrap .i64 (e - w.wd)) else (0:Int)))
namespace late
noncomputable def bd:Code:=(Tryz.f65.body).getD .skip
noncomputable def X:Ctx U El:=⟨E,tds,zeros,eqs,aH [],100000,13,aB [],fun _=>none⟩
noncomputable def nmR:Norm U:=⟨[],[4],[],[],[],[],[]⟩
noncomputable def RR:ah U El:=fun st=>aL nmR st (aG [4] [])
noncomputable def fr0 (w:Work) (e:Int):St U El:=⟨[(0,(.agg [(.str w.wn),(.int .i64 w.wh),(.lst .int w.wc),(.str w.ws),(.lst .int w.wa),(.int .i64 w.wd),(.int .i64 w.wp)])),(1,(.int .i64 e))],[]⟩
noncomputable def sh0 (w:Work) (e:Int):R :=
  some ((.int .i64 (IntKind.wrap .i64 (w.wp * (bif ilt (0:Int) (IntKind.wrap .i64 (e - w.wd)) then (IntKind.wrap .i64 (e - w.wd)) else (0:Int))))),[])
theorem P0 (w e):ak X (cdp [] bd) .d (fr0 w e) RR (fun _ _=>none) RR=sh0 w e:=by kernel_rfl
noncomputable def f0 (w:Work) (e:Int):R:=sh0 w e
theorem T0 (w e):ak X bd .d (fr0 w e) RR (fun _ _=>none) RR=f0 w e:=by
  refine (P0 w e).trans ?_
  show _=sh0 w e
  rfl
theorem run (w e):aS X bd .d nmR [4] [] [(.agg [(.str w.wn),(.int .i64 w.wh),(.lst .int w.wc),(.str w.ws),(.lst .int w.wa),(.int .i64 w.wd),(.int .i64 w.wp)]),(.int .i64 e)]=f0 w e:=T0 w e
theorem f0_eq (w:Work) (e:Int):f0 w e=bO (jz w e):=rfl
theorem ok:CtxOk Tryz.prog X:=aO tab spN dpN
theorem okM:MOk Tryz.prog X:=fun g sp h=>by cases h
theorem spec (w:Work) (e:Int):ar Tryz.prog E 65 [(.agg [(.str w.wn),(.int .i64 w.wh),(.lst .int w.wc),(.str w.ws),(.lst .int w.wa),(.int .i64 w.wd),(.int .i64 w.wp)]),(.int .i64 e)] (.int .i64 (jz w e)) [] :=
  al ok okM Tryz.call65 Tryz.func65 (by kernel_rfl) (by kernel_rfl) (by kernel_rfl) (by show 2≤13; decide) (by decide) (by rfl) ((run w e).trans (f0_eq w e))
noncomputable def sp:Sp U El:=fun args k=>match args with
  | [.agg [.str w_wn,.int .i64 w_wh,.lst .int w_wc,.str w_ws,.lst .int w_wa,.int .i64 w_wd,.int .i64 w_wp],.int .i64 e]=>k (.int .i64 (jz (⟨w_wn,w_wh,w_wc,w_ws,w_wa,w_wd,w_wp⟩:Work) e)) []
  | _=>none
theorem spOk:SpOk Tryz.prog E 65 sp where
  det:=fun vs=>by
    unfold sp
    split
    · exact ⟨some (_,_),fun _=>rfl⟩
    · exact ⟨none,fun _=>rfl⟩
  ok:=fun vs k r h=>by
    unfold sp at h
    split at h
    · exact ⟨_,_,spec ⟨_,_,_,_,_,_,_⟩ _,h⟩
    · cases h
end late
namespace endc
noncomputable def bd:Code:=(Tryz.f34.body).getD .skip
noncomputable def X:Ctx U El:=⟨E,tds,zeros,eqs,aH [],100000,14,aB [],fun _=>none⟩
noncomputable def nmR:Norm U:=⟨[],[4],[],[],[],[],[]⟩
noncomputable def RR:ah U El:=fun st=>aL nmR st (aG [4] [])
noncomputable def fr0 (l:List Work) (s:Slot):St U El:=⟨[(0,(.lst .work l)),(1,(.agg [(.int .i64 s.sw),(.int .i64 s.sc),(.int .i64 s.ss)]))],[]⟩
noncomputable def sh0 (l:List Work) (s:Slot):R :=
  chk (inb s.sw (List.length l)) (some ((.int .i64 (IntKind.wrap .i64 (s.ss+(List.getD l (Int.toNat s.sw) ab).wh))),[]))
theorem P0 (l s):ak X (cdp [] bd) .d (fr0 l s) RR (fun _ _=>none) RR=sh0 l s:=by kernel_rfl
noncomputable def f0 (l:List Work) (s:Slot):R:=sh0 l s
theorem T0 (l s):ak X bd .d (fr0 l s) RR (fun _ _=>none) RR=f0 l s:=by
  refine (P0 l s).trans ?_
  show _=sh0 l s
  rfl
theorem run (l s):aS X bd .d nmR [4] [] [(.lst .work l),(.agg [(.int .i64 s.sw),(.int .i64 s.sc),(.int .i64 s.ss)])]=f0 l s:=T0 l s
theorem f0_eq (l:List Work) (s:Slot) (h:inb (Slot.sw s) (List.length l)=true):f0 l s=bO (aV l s):=by
  show sh0 l s=_
  unfold sh0
  rw [h]
  rfl
theorem ok:CtxOk Tryz.prog X:=aO tab spN dpN
theorem okM:MOk Tryz.prog X:=fun g sp h=>by cases h
theorem spec (l:List Work) (s:Slot) (h:(inb (Slot.sw s) (List.length l))=true):ar Tryz.prog E 34 [(.lst .work l),(.agg [(.int .i64 s.sw),(.int .i64 s.sc),(.int .i64 s.ss)])] (.int .i64 (aV l s)) [] :=
  al ok okM Tryz.call34 Tryz.func34 (by kernel_rfl) (by kernel_rfl) (by kernel_rfl) (by show 2≤14; decide) (by decide) (by rfl) ((run l s).trans (f0_eq l s h))
noncomputable def sp:Sp U El:=fun args k=>match args with
  | [.lst .work l,.agg [.int .i64 s_sw,.int .i64 s_sc,.int .i64 s_ss]]=>chk (inb (Slot.sw (⟨s_sw,s_sc,s_ss⟩:Slot)) (List.length l)) (k (.int .i64 (aV l (⟨s_sw,s_sc,s_ss⟩:Slot))) [])
  | _=>none
theorem spOk:SpOk Tryz.prog E 34 sp where
  det:=fun vs=>by
    unfold sp
    split
    · exact ba _ _ _
    · exact ⟨none,fun _=>rfl⟩
  ok:=fun vs k r h=>by
    unfold sp at h
    split at h
    · obtain ⟨h1, h2⟩ := ae h
      exact ⟨_,_,spec _ ⟨_,_,_⟩ h1,h2⟩
    · cases h
end endc
noncomputable def mm (l:List Work) (p:List Slot):Nat→Nat→Int→Int
  | 0,_,s=>s
  | n+1,k,s=>mm l p n (k+1) (IntKind.wrap .i64 (s+jz (List.getD l k ab) (aV l (List.getD p k aa))))
noncomputable def jB (l:List Work) (p:List Slot):Int:=mm l p p.length 0 0
noncomputable def cY (l:List Work) (p:List Slot):Bool:=nle p.length 90000&&(Nat.beq p.length l.length&&List.all p (fun s=>inb s.sw l.length))
namespace cost
noncomputable def bd:Code:=(Tryz.f33.body).getD .skip
noncomputable def X:Ctx U El:=⟨E,tds,zeros,eqs,aH [(34,endc.sp),(65,late.sp)],100000,27,aB [],fun _=>none⟩
noncomputable def nmR:Norm U:=⟨[],[4],[],[],[],[],[]⟩
noncomputable def RR:ah U El:=fun st=>aL nmR st (aG [4] [])
noncomputable def nm1:Norm U:=⟨[],[5],[],[],[],[],[]⟩
noncomputable def nm2:Norm U:=⟨[],[0,5,8,9,10],[],[],[],[],[]⟩
abbrev Y1:=Int→R
abbrev Y2:=(List Work)→Int→(List Slot)→Int→Int→R
noncomputable def fr0 (l:List Work) (p:List Slot):St U El:=⟨[(0,(.lst .work l)),(1,(.lst .slot p))],[]⟩
noncomputable def fr1 (aA:Int):St U El:=⟨[(5,(.int .i64 aA))],[]⟩
noncomputable def fr2 (l0:List Work) (aA:Int) (x8:List Slot) (x9:Int) (bA:Int):St U El:=⟨[(0,(.lst .work l0)),(5,(.int .i64 aA)),(8,(.lst .slot x8)),(9,(.int .i64 x9)),(10,(.int .i64 bA))],[]⟩
noncomputable def sh0 (l:List Work) (p:List Slot) (k2:Y2):R :=
  k2 l (0:Int) p (Int.ofNat (List.length p)) (0:Int)
noncomputable def sh1 (aA:Int):R :=
  some ((.int .i64 aA),[])
noncomputable def sh2 (l0:List Work) (aA:Int) (x8:List Slot) (x9:Int) (bA:Int) (k1:Y1) (k2:Y2):R :=
  af (ilt bA x9) (chk (inb bA (List.length x8)) (chk (inb bA (List.length l0)) (chk (inb (Slot.sw (List.getD x8 (Int.toNat bA) aa)) (List.length l0)) (k2 l0 (IntKind.wrap .i64 (aA+(jz (List.getD l0 (Int.toNat bA) ab) (aV l0 (List.getD x8 (Int.toNat bA) aa))))) x8 x9 (IntKind.wrap .i64 (bA+(1:Int))))))) (k1 aA)
noncomputable def it2 (Kb1:ah U El) (n:Nat):ah U El:=bD nm2 (fun st' K'=>ak X (cdp [1,1,0,1,0,0] bd) .d st' K' (aC 0 (ap nm1 Kb1) (fun _ _=>none)) RR) n
noncomputable def ct1:ah U El:=fun st=>ak X (cdp [1,1,1] bd) .d st RR (fun _ _=>none) RR
theorem P0 (l p):ak X (cdp [] bd) (.seq none .d (.seq none .d (.seq (some nm1) (.seq none .d (.block (.loop nm2 .d))) .d))) (fr0 l p) RR (fun _ _=>none) RR=sh0 l p (fun y0 y1 y2 y3 y4=>(hid (it2 (hid ct1) 100000)) (fr2 y0 y1 y2 y3 y4)):=by kernel_rfl
theorem P1 (aA):ct1 (fr1 aA)=sh1 aA:=by kernel_rfl
theorem P2 (l0 aA x8 x9 bA) (Kb1 Kb2:ah U El):ak X (cdp [1,1,0,1,0,0] bd) .d (fr2 l0 aA x8 x9 bA) (ap nm2 Kb2) (aC 0 (ap nm1 Kb1) (fun _ _=>none)) RR=sh2 l0 aA x8 x9 bA (fun y0=>Kb1 (fr1 y0)) (fun y0 y1 y2 y3 y4=>Kb2 (fr2 y0 y1 y2 y3 y4)):=by kernel_rfl
noncomputable def f1 (aA:Int):R:=sh1 aA
noncomputable def f2:Nat→Y2
  | 0=>fun _ _ _ _ _=>none
  | n+1=>fun l0 aA x8 x9 bA=>sh2 l0 aA x8 x9 bA f1 (f2 n)
noncomputable def f0 (l:List Work) (p:List Slot):R:=sh0 l p (f2 100000)
theorem T1 (aA):(hid ct1) (fr1 aA)=f1 aA:=by
  refine (congrFun (am _) _).trans <| (P1 aA).trans ?_
  show _=sh1 aA
  rfl
theorem T2:∀ (n:Nat),∀ l0 aA x8 x9 bA,it2 (hid ct1) n (fr2 l0 aA x8 x9 bA)=f2 n l0 aA x8 x9 bA:=by
  intro n
  induction n with
  | zero=>intros; rfl
  | succ n ih =>
    intro l0 aA x8 x9 bA
    refine (P2 l0 aA x8 x9 bA (hid ct1) (it2 (hid ct1) n)).trans ?_
    show _=sh2 l0 aA x8 x9 bA f1 (f2 n)
    simp only [T1,ih]
theorem H2 (l0 aA x8 x9 bA):hid (it2 (hid ct1) 100000) (fr2 l0 aA x8 x9 bA)=f2 100000 l0 aA x8 x9 bA:=(congrFun (am _) _).trans (T2 100000 l0 aA x8 x9 bA)
theorem T0 (l p):ak X bd (.seq none .d (.seq none .d (.seq (some nm1) (.seq none .d (.block (.loop nm2 .d))) .d))) (fr0 l p) RR (fun _ _=>none) RR=f0 l p:=by
  refine (P0 l p).trans ?_
  show _=sh0 l p (f2 100000)
  simp only [H2]
theorem run (l p):aS X bd (.seq none .d (.seq none .d (.seq (some nm1) (.seq none .d (.block (.loop nm2 .d))) .d))) nmR [4] [] [(.lst .work l),(.lst .slot p)]=f0 l p:=T0 l p
theorem loop (l:List Work) (p:List Slot) (hl:p.length≤90000) (hlp:p.length=l.length) (hs:∀ s∈p,inb s.sw l.length=true):∀ (n k:Nat) (s:Int),p.length < n+k→k≤p.length→f2 n l s p (Int.ofNat p.length) (k:Int)=bO (mm l p (p.length - k) k s):=by
  intro n
  induction n with
  | zero=>intro i m h1 h2; omega
  | succ n ih =>
    intro k s h1 h2
    show sh2 l s p (Int.ofNat p.length) (k:Int) f1 (f2 n)=_
    unfold sh2
    by_cases hk:k < p.length
    · rw [bf (by simp; omega), a8 hk, a8 (show k < l.length by omega), aw, show inb (Slot.sw (List.getD p k aa)) l.length = true by rw [aD hk]; exact hs _ (List.getElem_mem hk), bl k (by omega), show p.length - k = (p.length - (k + 1)) + 1 by omega, bm, bn, bn, bn]
      exact ih (k+1) _ (by omega) hk
    · have : k = p.length := by omega
      subst this
      rw [a6 (by simp),Nat.sub_self,br]
      rfl
theorem f0_eq (l:List Work) (p:List Slot) (h:cY l p=true):f0 l p=bO (jB l p):=by
  simp only [cY,Bool.and_eq_true] at h
  exact loop l p (cm h.1) (Nat.eq_of_beq_eq_true h.2.1) (List.all_eq_true.1 h.2.2) 100000 0 0 (by have:=cm h.1; omega) (by omega)
theorem ok:CtxOk Tryz.prog X:=aO tab (spC endc.spOk (spC late.spOk spN)) dpN
theorem okM:MOk Tryz.prog X:=fun g sp h=>by cases h
theorem spec (l:List Work) (p:List Slot) (h:(cY l p)=true):ar Tryz.prog E 33 [(.lst .work l),(.lst .slot p)] (.int .i64 (jB l p)) [] :=
  al ok okM Tryz.call33 Tryz.func33 (by kernel_rfl) (by kernel_rfl) (by kernel_rfl) (by show 2≤27; decide) (by decide) (by rfl) ((run l p).trans (f0_eq l p h))
noncomputable def sp:Sp U El:=fun args k=>match args with
  | [.lst .work l,.lst .slot p]=>chk (cY l p) (k (.int .i64 (jB l p)) [])
  | _=>none
theorem spOk:SpOk Tryz.prog E 33 sp where
  det:=fun vs=>by
    unfold sp
    split
    · exact ba _ _ _
    · exact ⟨none,fun _=>rfl⟩
  ok:=fun vs k r h=>by
    unfold sp at h
    split at h
    · obtain ⟨h1, h2⟩ := ae h
      exact ⟨_,_,spec _ _ h1,h2⟩
    · cases h
end cost
namespace checked
noncomputable def bd:Code:=(Tryz.f32.body).getD .skip
noncomputable def X:Ctx U El:=⟨E,tds,zeros,eqs,aH [(17,check.sp)],100000,14,aB [],fun _=>none⟩
noncomputable def nmR:Norm U:=⟨[],[4],[],[],[],[],[]⟩
noncomputable def RR:ah U El:=fun st=>aL nmR st (aG [4] [])
noncomputable def fr0 (l:List Work) (p:List Slot):St U El:=⟨[(0,(.lst .work l)),(1,(.lst .slot p))],[]⟩
noncomputable def sh0 (l:List Work) (p:List Slot):R :=
  chk (okV l) (some ((.int .i64 (az l (12:Int) p)),[]))
theorem P0 (l p):ak X (cdp [] bd) .d (fr0 l p) RR (fun _ _=>none) RR=sh0 l p:=by kernel_rfl
noncomputable def f0 (l:List Work) (p:List Slot):R:=sh0 l p
theorem T0 (l p):ak X bd .d (fr0 l p) RR (fun _ _=>none) RR=f0 l p:=by
  refine (P0 l p).trans ?_
  show _=sh0 l p
  rfl
theorem run (l p):aS X bd .d nmR [4] [] [(.lst .work l),(.lst .slot p)]=f0 l p:=T0 l p
theorem f0_eq (l:List Work) (p:List Slot) (h:okV l=true):f0 l p=bO (az l 12 p):=by
  show sh0 l p=_
  unfold sh0
  rw [h]
  rfl
theorem ok:CtxOk Tryz.prog X:=aO tab (spC check.spOk spN) dpN
theorem okM:MOk Tryz.prog X:=fun g sp h=>by cases h
theorem spec (l:List Work) (p:List Slot) (h:(okV l)=true):ar Tryz.prog E 32 [(.lst .work l),(.lst .slot p)] (.int .i64 (az l 12 p)) [] :=
  al ok okM Tryz.call32 Tryz.func32 (by kernel_rfl) (by kernel_rfl) (by kernel_rfl) (by show 2≤14; decide) (by decide) (by rfl) ((run l p).trans (f0_eq l p h))
noncomputable def sp:Sp U El:=fun args k=>match args with
  | [.lst .work l,.lst .slot p]=>chk (okV l) (k (.int .i64 (az l 12 p)) [])
  | _=>none
theorem spOk:SpOk Tryz.prog E 32 sp where
  det:=fun vs=>by
    unfold sp
    split
    · exact ba _ _ _
    · exact ⟨none,fun _=>rfl⟩
  ok:=fun vs k r h=>by
    unfold sp at h
    split at h
    · obtain ⟨h1, h2⟩ := ae h
      exact ⟨_,_,spec _ _ h1,h2⟩
    · cases h
end checked
structure NoF (l:List Work) (p:List Slot) (i:Nat):Prop where
  sw:(List.getD p i aa).sw=(i:Int)
  s0:0≤(List.getD p i aa).ss
  s9:(List.getD p i aa).ss≤1000000
  ord:∀ a∈(List.getD l i ab).wa,(List.getD p (Int.toNat a) aa).ss≤(List.getD p i aa).ss - (List.getD l (Int.toNat a) ab).wh
theorem jC {l : List Work} {p : List Slot} {i : Nat} (h : eB l p i = 0) : NoF l p i := by
  unfold eB at h
  cases h1:((List.getD p i aa).sw != (i:Int)) with
  | true=>rw [h1,cond_true] at h; omega
  | false =>
    rw [h1,cond_false] at h
    cases h2:(!(List.any (List.getD l i ab).wc (bK (List.getD p i aa).sc))) with
    | true=>rw [h2,cond_true] at h; omega
    | false =>
      rw [h2,cond_false] at h
      cases h3:(!(ile 0 (List.getD p i aa).ss&&ile (List.getD p i aa).ss 1000000)) with
      | true=>rw [h3,cond_true] at h; omega
      | false =>
        rw [h3,cond_false] at h
        cases h4:List.any (List.getD l i ab).wa (gQ l p i) with
        | true=>rw [h4,cond_true] at h; omega
        | false =>
          simp only [Bool.not_eq_false',Bool.and_eq_true] at h3
          refine ⟨by simpa only [bne_eq_false_iff_eq] using h1,dw h3.1,dw h3.2,fun a ha => ?_⟩
          have:=List.any_eq_false.1 h4 a ha
          have h5:gQ l p i a=false:=by simpa using this
          have:=mb h5
          omega
theorem qa {l : List Work} {p : List Slot} : ∀ (n k : Nat), (hI l p n k).1 = 0 → ∀ j, k ≤ j → j < k + n → eB l p j = 0 := by
  intro n
  induction n with
  | zero=>intro k _ j h1 h2; omega
  | succ n ih =>
    intro k h j h1 h2
    simp only [hI] at h
    cases hb:(bG l p (k:Int) != 0) with
    | true =>
      rw [hb,cond_true] at h
      have h':bG l p (k:Int)=0:=h
      rw [h'] at hb
      cases hb
    | false =>
      rw [hb,cond_false] at h
      by_cases e:j=k
      · subst e
        have:bG l p (j:Int)=0:=by simpa only [bne_eq_false_iff_eq] using hb
        exact this
      · exact ih (k+1) h j (by omega) (by omega)
theorem gr {l:List Work} {crews:Int} {p:List Slot} (h:az l crews p=0):bF l crews=true∧p.length=l.length∧∀ i,i < l.length→eB l p i=0:=by
  unfold az jx at h
  cases hv:bF l crews with
  | false=>rw [hv] at h; simp at h
  | true =>
    rw [hv] at h
    cases hne:(Int.ofNat p.length != Int.ofNat l.length) with
    | true=>rw [hne] at h; simp at h
    | false =>
      rw [hne] at h
      have hp:p.length=l.length:=Int.ofNat.inj (by simpa only [bne_eq_false_iff_eq] using hne)
      simp only [Bool.not_true,cond_false] at h
      exact ⟨rfl,hp,fun i hi=>qa _ _ h i (by omega) (by omega)⟩
theorem kq {l:List Work} {crews:Int} {p:List Slot} (h:az l crews p=0):cY l p=true:=by
  obtain ⟨hv,hp,hf⟩:=gr h
  simp only [cY,Bool.and_eq_true]
  refine ⟨bz (by have:=(jy hv).len; omega),by rw [hp]; exact Nat.beq_refl _,List.all_eq_true.2 fun s hs => ?_⟩
  obtain ⟨i,hi,rfl⟩:=List.getElem_of_mem hs
  have:=(jC (hf i (by omega))).sw
  rw [aD hi] at this
  rw [this]
  exact a8 (by omega)
noncomputable def fF (l:List Work) (p:List Slot):Int:=bif az l 12 p != 0 then 0 else jB l p
noncomputable def qb (a b:Int):R:=some ((.tup [(.int .i64 a),(.int .i64 b)]),[])
namespace Costc
noncomputable def bd:Code:=(Tryz.f7.body).getD .skip
noncomputable def X:Ctx U El:=⟨E,tds,zeros,eqs,aH [(32,checked.sp),(33,cost.sp)],100000,16,aB [],fun _=>none⟩
noncomputable def nmR:Norm U:=⟨[],[4,5],[],[],[],[],[]⟩
noncomputable def RR:ah U El:=fun st=>aL nmR st (aG [4,5] [])
noncomputable def fr0 (l:List Work) (p:List Slot):St U El:=⟨[(0,(.lst .work l)),(1,(.lst .slot p))],[]⟩
noncomputable def sh0 (l:List Work) (p:List Slot):R :=
  chk (okV l) (af ((az l 12 p) != (0:Int)) (some ((.tup [(.int .i64 (0:Int)),(.int .i64 (az l 12 p))]),[])) (chk (cY l p) (some ((.tup [(.int .i64 (jB l p)),(.int .i64 (0:Int))]),[]))))
theorem P0 (l p):ak X (cdp [] bd) .d (fr0 l p) RR (fun _ _=>none) RR=sh0 l p:=by kernel_rfl
noncomputable def f0 (l:List Work) (p:List Slot):R:=sh0 l p
theorem T0 (l p):ak X bd .d (fr0 l p) RR (fun _ _=>none) RR=f0 l p:=by
  refine (P0 l p).trans ?_
  show _=sh0 l p
  rfl
theorem run (l p):aS X bd .d nmR [4,5] [] [(.lst .work l),(.lst .slot p)]=f0 l p:=T0 l p
theorem f0_eq (l:List Work) (p:List Slot) (h:okV l=true):f0 l p=qb (fF l p) (az l 12 p):=by
  show sh0 l p=_
  unfold sh0 fF
  rw [h,bn]
  cases hc:(az l 12 p != 0) with
  | true=>rfl
  | false =>
    have h0:az l 12 p=0:=by simpa only [bne_eq_false_iff_eq] using hc
    rw [kq h0,h0]
    rfl
theorem ok:CtxOk Tryz.prog X:=aO tab (spC checked.spOk (spC cost.spOk spN)) dpN
theorem okM:MOk Tryz.prog X:=fun g sp h=>by cases h
theorem spec (l:List Work) (p:List Slot) (h:(okV l)=true):ar Tryz.prog E 7 [(.lst .work l),(.lst .slot p)] (.tup [(.int .i64 (fF l p)),(.int .i64 (az l 12 p))]) [] :=
  al ok okM Tryz.call7 Tryz.func7 (by kernel_rfl) (by kernel_rfl) (by kernel_rfl) (by show 2≤16; decide) (by decide) (by rfl) ((run l p).trans (f0_eq l p h))
noncomputable def sp:Sp U El:=fun args k=>match args with
  | [.lst .work l,.lst .slot p]=>chk (okV l) (k (.tup [(.int .i64 (fF l p)),(.int .i64 (az l 12 p))]) [])
  | _=>none
theorem spOk:SpOk Tryz.prog E 7 sp where
  det:=fun vs=>by
    unfold sp
    split
    · exact ba _ _ _
    · exact ⟨none,fun _=>rfl⟩
  ok:=fun vs k r h=>by
    unfold sp at h
    split at h
    · obtain ⟨h1, h2⟩ := ae h
      exact ⟨_,_,spec _ _ h1,h2⟩
    · cases h
end Costc
namespace cloneS
noncomputable def bd:Code:=(Tryz.f41.body).getD .skip
noncomputable def X:Ctx U El:=⟨E,tds,zeros,eqs,aH [],100000,8,aB [],fun _=>none⟩
noncomputable def nmR:Norm U:=⟨[(2,.slot)],[2],[2],[],[],[],[]⟩
noncomputable def RR:ah U El:=fun st=>aL nmR st (aG [2] [2])
noncomputable def fr0 (l:List Slot):St U El:=⟨[(0,(.lst .slot l))],[]⟩
noncomputable def sh0 (l:List Slot):R :=
  af (nlt 0 (List.length l)) (chk (nle ((List.length ([]:List Slot)+List.length l) * 24) 140737488355328&&nle (List.length ([]:List Slot)+List.length l) 9223372036854775807) (some ((.ful 0),[(0,.rows .slot (([]:List Slot)++l))]))) (amb (some ((.ful 0),[(0,.rows .slot ([]:List Slot))])) (chk (nle ((List.length ([]:List Slot)+List.length l) * 24) 140737488355328&&nle (List.length ([]:List Slot)+List.length l) 9223372036854775807) (some ((.ful 0),[(0,.rows .slot (([]:List Slot)++l))]))))
theorem P0 (l):ak X (cdp [] bd) .d (fr0 l) RR (fun _ _=>none) RR=sh0 l:=by kernel_rfl
noncomputable def f0 (l:List Slot):R:=sh0 l
theorem T0 (l):ak X bd .d (fr0 l) RR (fun _ _=>none) RR=f0 l:=by
  refine (P0 l).trans ?_
  show _=sh0 l
  rfl
theorem run (l):aS X bd .d nmR [2] [2] [(.lst .slot l)]=f0 l:=T0 l
theorem f0_eq (l:List Slot) (h:(nle (List.length l) 90000)=true):f0 l=some ((.ful 0),[(0,.rows .slot l)]):=by
  have hl:=cm h
  show sh0 l=_
  unfold sh0
  have e1:nle ((List.length ([]:List Slot)+List.length l) * 24) 140737488355328=true:=bz (by simp; omega)
  have e2:nle (List.length ([]:List Slot)+List.length l) 9223372036854775807=true:=bz (by simp; omega)
  rw [e1,e2]
  cases l with
  | nil=>exact pk _
  | cons x l=>rfl
theorem ok:CtxOk Tryz.prog X:=aO tab spN dpN
theorem okM:MOk Tryz.prog X:=fun g sp h=>by cases h
theorem spec (l:List Slot) (h:(nle (List.length l) 90000)=true):ar Tryz.prog E 41 [(.lst .slot l)] (.ful 0) [(0,.rows .slot (l))] :=
  al ok okM Tryz.call41 Tryz.func41 (by kernel_rfl) (by kernel_rfl) (by kernel_rfl) (by show 1≤8; decide) (by decide) (by rfl) ((run l).trans (f0_eq l h))
noncomputable def sp:Sp U El:=fun args k=>match args with
  | [.lst .slot l]=>chk (nle (List.length l) 90000) (k (.ful 0) [(0,.rows .slot (l))])
  | _=>none
theorem spOk:SpOk Tryz.prog E 41 sp where
  det:=fun vs=>by
    unfold sp
    split
    · exact ba _ _ _
    · exact ⟨none,fun _=>rfl⟩
  ok:=fun vs k r h=>by
    unfold sp at h
    split at h
    · obtain ⟨h1, h2⟩ := ae h
      exact ⟨_,_,spec _ h1,h2⟩
    · cases h
end cloneS
namespace isnan
noncomputable def bd:Code:=(Tryz.f71.body).getD .skip
noncomputable def X:Ctx U El:=⟨E,tds,zeros,eqs,aH [],100000,6,aB [],fun _=>none⟩
noncomputable def nmR:Norm U:=⟨[],[2],[],[],[],[],[]⟩
noncomputable def RR:ah U El:=fun st=>aL nmR st (aG [2] [])
noncomputable def fr0 (x:Int):St U El:=⟨[(0,(.int .i64 x))],[]⟩
noncomputable def sh0 (x:Int):R :=
  some ((.bool (x != x)),[])
theorem P0 (x):ak X (cdp [] bd) .d (fr0 x) RR (fun _ _=>none) RR=sh0 x:=by kernel_rfl
noncomputable def f0 (x:Int):R:=sh0 x
theorem T0 (x):ak X bd .d (fr0 x) RR (fun _ _=>none) RR=f0 x:=by
  refine (P0 x).trans ?_
  show _=sh0 x
  rfl
theorem run (x):aS X bd .d nmR [2] [] [(.int .i64 x)]=f0 x:=T0 x
theorem f0_eq (x:Int):f0 x=a7 false:=by
  show a7 (x != x)=_
  simp
theorem ok:CtxOk Tryz.prog X:=aO tab spN dpN
theorem okM:MOk Tryz.prog X:=fun g sp h=>by cases h
theorem spec (x:Int):ar Tryz.prog E 71 [(.int .i64 x)] (.bool (false)) [] :=
  al ok okM Tryz.call71 Tryz.func71 (by kernel_rfl) (by kernel_rfl) (by kernel_rfl) (by show 1≤6; decide) (by decide) (by rfl) ((run x).trans (f0_eq x))
noncomputable def sp:Sp U El:=fun args k=>match args with
  | [.int .i64 x]=>k (.bool (false)) []
  | _=>none
theorem spOk:SpOk Tryz.prog E 71 sp where
  det:=fun vs=>by
    unfold sp
    split
    · exact ⟨some (_,_),fun _=>rfl⟩
    · exact ⟨none,fun _=>rfl⟩
  ok:=fun vs k r h=>by
    unfold sp at h
    split at h
    · exact ⟨_,_,spec _,h⟩
    · cases h
end isnan
namespace cmpI
noncomputable def bd:Code:=(Tryz.f37.body).getD .skip
noncomputable def X:Ctx U El:=⟨E,tds,zeros,eqs,aH [(71,isnan.sp)],100000,20,aB [],fun _=>none⟩
noncomputable def nmR:Norm U:=⟨[],[4],[],[],[],[],[]⟩
noncomputable def RR:ah U El:=fun st=>aL nmR st (aG [4] [])
noncomputable def fr0 (x:Int) (y:Int):St U El:=⟨[(0,(.int .i64 x)),(1,(.int .i64 y))],[]⟩
noncomputable def sh0 (x:Int) (y:Int):R :=
  af (false) (af (false) (some ((.int .i64 (0:Int)),[])) (some ((.int .i64 (-1:Int)),[]))) (af (false) (some ((.int .i64 (1:Int)),[])) (af (ilt x y) (some ((.int .i64 (-1:Int)),[])) (af (ilt y x) (some ((.int .i64 (1:Int)),[])) (some ((.int .i64 (0:Int)),[])))))
theorem P0 (x y):ak X (cdp [] bd) .d (fr0 x y) RR (fun _ _=>none) RR=sh0 x y:=by kernel_rfl
noncomputable def f0 (x:Int) (y:Int):R:=sh0 x y
theorem T0 (x y):ak X bd .d (fr0 x y) RR (fun _ _=>none) RR=f0 x y:=by
  refine (P0 x y).trans ?_
  show _=sh0 x y
  rfl
theorem run (x y):aS X bd .d nmR [4] [] [(.int .i64 x),(.int .i64 y)]=f0 x y:=T0 x y
theorem f0_eq (x y:Int):f0 x y=bO (cw x y):=by
  show sh0 x y=_
  unfold sh0 cw
  cases ilt x y<;>cases ilt y x<;>rfl
theorem ok:CtxOk Tryz.prog X:=aO tab (spC isnan.spOk spN) dpN
theorem okM:MOk Tryz.prog X:=fun g sp h=>by cases h
theorem spec (x:Int) (y:Int):ar Tryz.prog E 37 [(.int .i64 x),(.int .i64 y)] (.int .i64 (cw x y)) [] :=
  al ok okM Tryz.call37 Tryz.func37 (by kernel_rfl) (by kernel_rfl) (by kernel_rfl) (by show 2≤20; decide) (by decide) (by rfl) ((run x y).trans (f0_eq x y))
noncomputable def sp:Sp U El:=fun args k=>match args with
  | [.int .i64 x,.int .i64 y]=>k (.int .i64 (cw x y)) []
  | _=>none
theorem spOk:SpOk Tryz.prog E 37 sp where
  det:=fun vs=>by
    unfold sp
    split
    · exact ⟨some (_,_),fun _=>rfl⟩
    · exact ⟨none,fun _=>rfl⟩
  ok:=fun vs k r h=>by
    unfold sp at h
    split at h
    · exact ⟨_,_,spec _ _,h⟩
    · cases h
end cmpI
noncomputable def rcT (l:List Work) (s:Slot) (sum:Int):Int:=bif ilt (0:Int) (IntKind.wrap .i64 (aV l s - (List.getD l (Int.toNat s.sw) ab).wd)) then (IntKind.wrap .i64 (sum+(IntKind.wrap .i64 ((IntKind.wrap .i64 (aV l s - (List.getD l (Int.toNat s.sw) ab).wd)) * (List.getD l (Int.toNat s.sw) ab).wp)))) else sum
noncomputable def rcG (l:List Work) (p:List Slot):Nat→Nat→Int→Int
  | 0,_,s=>s
  | n+1,k,s=>rcG l p n (k+1) (rcT l (List.getD p k aa) s)
noncomputable def jD (l:List Work) (p:List Slot):Int:=rcG l p p.length 0 0
namespace rcost
noncomputable def bd:Code:=(Tryz.f12.body).getD .skip
noncomputable def X:Ctx U El:=⟨E,tds,zeros,eqs,aH [(49,rend.sp)],100000,46,aB [],fun _=>none⟩
noncomputable def nmR:Norm U:=⟨[],[4],[],[],[],[],[]⟩
noncomputable def RR:ah U El:=fun st=>aL nmR st (aG [4] [])
noncomputable def nm1:Norm U:=⟨[],[5],[],[],[],[],[]⟩
noncomputable def nm2:Norm U:=⟨[],[0,1,5,6],[],[],[],[],[]⟩
noncomputable def nm3:Norm U:=⟨[],[0,1,5,6],[],[],[],[],[]⟩
abbrev Y1:=Int→R
abbrev Y2:=(List Work)→(List Slot)→Int→Int→R
abbrev Y3:=(List Work)→(List Slot)→Int→Int→R
noncomputable def fr0 (l:List Work) (p:List Slot):St U El:=⟨[(0,(.lst .work l)),(1,(.lst .slot p))],[]⟩
noncomputable def fr1 (aA:Int):St U El:=⟨[(5,(.int .i64 aA))],[]⟩
noncomputable def fr2 (l0:List Work) (p1:List Slot) (aA:Int) (i6:Int):St U El:=⟨[(0,(.lst .work l0)),(1,(.lst .slot p1)),(5,(.int .i64 aA)),(6,(.int .i64 i6))],[]⟩
noncomputable def fr3 (l0:List Work) (p1:List Slot) (aA:Int) (i6:Int):St U El:=⟨[(0,(.lst .work l0)),(1,(.lst .slot p1)),(5,(.int .i64 aA)),(6,(.int .i64 i6))],[]⟩
noncomputable def sh0 (l:List Work) (p:List Slot) (k2:Y2):R :=
  k2 l p (0:Int) (0:Int)
noncomputable def sh1 (aA:Int):R :=
  some ((.int .i64 aA),[])
noncomputable def sh2 (l0:List Work) (p1:List Slot) (aA:Int) (i6:Int) (k1:Y1) (k3:Y3):R :=
  af (ilt i6 (Int.ofNat (List.length p1))) (chk (inb i6 (List.length p1)) (chk (inb (Slot.sw (List.getD p1 (Int.toNat i6) aa)) (List.length l0)) (chk (inb i6 (List.length p1)) (chk (inb ((List.getD p1 (Int.toNat i6) aa).sw) (List.length l0)) (af (ilt (0:Int) (IntKind.wrap .i64 ((aV l0 (List.getD p1 (Int.toNat i6) aa)) - (List.getD l0 (Int.toNat ((List.getD p1 (Int.toNat i6) aa).sw)) ab).wd))) (chk (inb i6 (List.length p1)) (chk (inb ((List.getD p1 (Int.toNat i6) aa).sw) (List.length l0)) (k3 l0 p1 (IntKind.wrap .i64 (aA+(IntKind.wrap .i64 ((IntKind.wrap .i64 ((aV l0 (List.getD p1 (Int.toNat i6) aa)) - (List.getD l0 (Int.toNat ((List.getD p1 (Int.toNat i6) aa).sw)) ab).wd)) * (List.getD l0 (Int.toNat ((List.getD p1 (Int.toNat i6) aa).sw)) ab).wp)))) i6))) (k3 l0 p1 aA i6)))))) (k1 aA)
noncomputable def sh3 (l0:List Work) (p1:List Slot) (aA:Int) (i6:Int) (k2:Y2):R :=
  k2 l0 p1 aA (IntKind.wrap .i64 (i6+(1:Int)))
noncomputable def it2 (Kb1:ah U El) (n:Nat):ah U El:=bD nm2 (fun st' K'=>ak X (cdp [1,1,0,1,0,0] bd) (.seq none .d (.seq (some nm3) .d .d)) st' K' (aC 0 (ap nm1 Kb1) (fun _ _=>none)) RR) n
noncomputable def ct1:ah U El:=fun st=>ak X (cdp [1,1,1] bd) .d st RR (fun _ _=>none) RR
noncomputable def ct3 (Kb1 Kb2:ah U El):ah U El:=fun st=>ak X (cdp [1,1,0,1,0,0,1,1] bd) .d st (ap nm2 Kb2) (aC 0 (ap nm1 Kb1) (fun _ _=>none)) RR
theorem P0 (l p):ak X (cdp [] bd) (.seq none .d (.seq none .d (.seq (some nm1) (.seq none .d (.block (.loop nm2 (.seq none .d (.seq (some nm3) .d .d))))) .d))) (fr0 l p) RR (fun _ _=>none) RR=sh0 l p (fun y0 y1 y2 y3=>(hid (it2 (hid ct1) 100000)) (fr2 y0 y1 y2 y3)):=by kernel_rfl
theorem P1 (aA):ct1 (fr1 aA)=sh1 aA:=by kernel_rfl
theorem P2 (l0 p1 aA i6) (Kb1 Kb2:ah U El):ak X (cdp [1,1,0,1,0,0] bd) (.seq none .d (.seq (some nm3) .d .d)) (fr2 l0 p1 aA i6) (ap nm2 Kb2) (aC 0 (ap nm1 Kb1) (fun _ _=>none)) RR=sh2 l0 p1 aA i6 (fun y0=>Kb1 (fr1 y0)) (fun y0 y1 y2 y3=>(hid (ct3 Kb1 Kb2)) (fr3 y0 y1 y2 y3)):=by kernel_rfl
theorem P3 (l0 p1 aA i6) (Kb1 Kb2:ah U El):ct3 Kb1 Kb2 (fr3 l0 p1 aA i6)=sh3 l0 p1 aA i6 (fun y0 y1 y2 y3=>Kb2 (fr2 y0 y1 y2 y3)):=by kernel_rfl
noncomputable def f1 (aA:Int):R:=sh1 aA
noncomputable def f3 (k2:Y2) (l0:List Work) (p1:List Slot) (aA:Int) (i6:Int):R:=sh3 l0 p1 aA i6 k2
noncomputable def f2:Nat→Y2
  | 0=>fun _ _ _ _=>none
  | n+1=>fun l0 p1 aA i6=>sh2 l0 p1 aA i6 f1 (f3 (f2 n))
noncomputable def f0 (l:List Work) (p:List Slot):R:=sh0 l p (f2 100000)
theorem T1 (aA):(hid ct1) (fr1 aA)=f1 aA:=by
  refine (congrFun (am _) _).trans <| (P1 aA).trans ?_
  show _=sh1 aA
  rfl
theorem T3 (KL2:ah U El) (k2:Y2) (h2:∀ l0 p1 aA i6,KL2 (fr2 l0 p1 aA i6)=k2 l0 p1 aA i6) (l0 p1 aA i6):(hid (ct3 (hid ct1) KL2)) (fr3 l0 p1 aA i6)=f3 k2 l0 p1 aA i6:=by
  refine (congrFun (am _) _).trans <| (P3 l0 p1 aA i6 (hid ct1) KL2).trans ?_
  show _=sh3 l0 p1 aA i6 k2
  simp only [h2]
theorem T2:∀ (n:Nat),∀ l0 p1 aA i6,it2 (hid ct1) n (fr2 l0 p1 aA i6)=f2 n l0 p1 aA i6:=by
  intro n
  induction n with
  | zero=>intros; rfl
  | succ n ih =>
    intro l0 p1 aA i6
    refine (P2 l0 p1 aA i6 (hid ct1) (it2 (hid ct1) n)).trans ?_
    show _=sh2 l0 p1 aA i6 f1 (f3 (f2 n))
    simp only [T1,T3 (it2 (hid ct1) n) (f2 n) ih]
theorem H2 (l0 p1 aA i6):hid (it2 (hid ct1) 100000) (fr2 l0 p1 aA i6)=f2 100000 l0 p1 aA i6:=(congrFun (am _) _).trans (T2 100000 l0 p1 aA i6)
theorem T0 (l p):ak X bd (.seq none .d (.seq none .d (.seq (some nm1) (.seq none .d (.block (.loop nm2 (.seq none .d (.seq (some nm3) .d .d))))) .d))) (fr0 l p) RR (fun _ _=>none) RR=f0 l p:=by
  refine (P0 l p).trans ?_
  show _=sh0 l p (f2 100000)
  simp only [H2]
theorem run (l p):aS X bd (.seq none .d (.seq none .d (.seq (some nm1) (.seq none .d (.block (.loop nm2 (.seq none .d (.seq (some nm3) .d .d))))) .d))) nmR [4] [] [(.lst .work l),(.lst .slot p)]=f0 l p:=T0 l p
theorem loop (l : List Work) (p : List Slot) (hl : p.length ≤ 90000) (hs : ∀ s ∈ p, inb s.sw l.length = true) : ∀ (n k : Nat) (s : Int), p.length < n + k → k ≤ p.length → f2 n l p s (k : Int) = bO (rcG l p (p.length - k) k s) := by
  intro n
  induction n with
  | zero=>intro i m h1 h2; omega
  | succ n ih =>
    intro k s h1 h2
    show sh2 l p s (k:Int) f1 (f3 (f2 n))=_
    unfold sh2
    by_cases hk:k < p.length
    · have e3 : ∀ z : Int, f3 (f2 n) l p z (k : Int) = f2 n l p z ((k + 1 : Nat) : Int) := fun z => by
        show f2 n l p z (IntKind.wrap .i64 ((k:Int)+1))=_
        rw [bl k (by omega)]
      have hin:inb (Slot.sw (List.getD p k aa)) l.length=true:=by rw [aD hk]; exact hs _ (List.getElem_mem hk)
      rw [bf (by simp; omega),a8 hk,aw,hin,e3,e3,show p.length - k=(p.length - (k+1))+1 by omega]
      simp only [rcG,rcT]
      cases ilt (0:Int) (IntKind.wrap .i64 (aV l (List.getD p k aa) - (List.getD l (Int.toNat (List.getD p k aa).sw) ab).wd)) with
      | true=>exact ih (k+1) _ (by omega) hk
      | false=>exact ih (k+1) _ (by omega) hk
    · have : k = p.length := by omega
      subst this
      rw [a6 (by simp),Nat.sub_self,br]
      rfl
theorem f0_eq (l:List Work) (p:List Slot) (h:cY l p=true):f0 l p=bO (jD l p):=by
  simp only [cY,Bool.and_eq_true] at h
  exact loop l p (cm h.1) (List.all_eq_true.1 h.2.2) 100000 0 0 (by have:=cm h.1; omega) (by omega)
theorem ok:CtxOk Tryz.prog X:=aO tab (spC rend.spOk spN) dpN
theorem okM:MOk Tryz.prog X:=fun g sp h=>by cases h
theorem spec (l:List Work) (p:List Slot) (h:(cY l p)=true):ar Tryz.prog E 12 [(.lst .work l),(.lst .slot p)] (.int .i64 (jD l p)) [] :=
  al ok okM Tryz.call12 Tryz.func12 (by kernel_rfl) (by kernel_rfl) (by kernel_rfl) (by show 2≤46; decide) (by decide) (by rfl) ((run l p).trans (f0_eq l p h))
noncomputable def sp:Sp U El:=fun args k=>match args with
  | [.lst .work l,.lst .slot p]=>chk (cY l p) (k (.int .i64 (jD l p)) [])
  | _=>none
theorem spOk:SpOk Tryz.prog E 12 sp where
  det:=fun vs=>by
    unfold sp
    split
    · exact ba _ _ _
    · exact ⟨none,fun _=>rfl⟩
  ok:=fun vs k r h=>by
    unfold sp at h
    split at h
    · obtain ⟨h1, h2⟩ := ae h
      exact ⟨_,_,spec _ _ h1,h2⟩
    · cases h
end rcost
namespace clCmp
noncomputable def bd:Code:=(Tryz.f36.body).getD .skip
noncomputable def X:Ctx U El:=⟨E,tds,zeros,eqs,aH [(37,cmpI.sp)],100000,10,aB [],fun _=>none⟩
noncomputable def nmR:Norm U:=⟨[],[4],[],[],[],[],[]⟩
noncomputable def RR:ah U El:=fun st=>aL nmR st (aG [4] [])
noncomputable def fr0 (a:Span) (b:Span):St U El:=⟨[(0,(.agg [(.int .i64 a.slo),(.int .i64 a.shi)])),(1,(.agg [(.int .i64 b.slo),(.int .i64 b.shi)]))],[]⟩
noncomputable def sh0 (a:Span) (b:Span):R :=
  some ((.int .i64 (cw a.slo b.slo)),[])
theorem P0 (a b):ak X (cdp [] bd) .d (fr0 a b) RR (fun _ _=>none) RR=sh0 a b:=by kernel_rfl
noncomputable def f0 (a:Span) (b:Span):R:=sh0 a b
theorem T0 (a b):ak X bd .d (fr0 a b) RR (fun _ _=>none) RR=f0 a b:=by
  refine (P0 a b).trans ?_
  show _=sh0 a b
  rfl
theorem run (a b):aS X bd .d nmR [4] [] [(.agg [(.int .i64 a.slo),(.int .i64 a.shi)]),(.agg [(.int .i64 b.slo),(.int .i64 b.shi)])]=f0 a b:=T0 a b
theorem f0_eq (a b:Span):f0 a b=bO (cw a.slo b.slo):=rfl
theorem ok:CtxOk Tryz.prog X:=aO tab (spC cmpI.spOk spN) dpN
theorem okM:MOk Tryz.prog X:=fun g sp h=>by cases h
theorem spec (a:Span) (b:Span):ar Tryz.prog E 36 [(.agg [(.int .i64 a.slo),(.int .i64 a.shi)]),(.agg [(.int .i64 b.slo),(.int .i64 b.shi)])] (.int .i64 (cw (Span.slo a) (Span.slo b))) [] :=
  al ok okM Tryz.call36 Tryz.func36 (by kernel_rfl) (by kernel_rfl) (by kernel_rfl) (by show 2≤10; decide) (by decide) (by rfl) ((run a b).trans (f0_eq a b))
noncomputable def sp:Sp U El:=fun args k=>match args with
  | [.agg [.int .i64 a_slo,.int .i64 a_shi],.agg [.int .i64 b_slo,.int .i64 b_shi]]=>k (.int .i64 (cw (Span.slo (⟨a_slo,a_shi⟩:Span)) (Span.slo (⟨b_slo,b_shi⟩:Span)))) []
  | _=>none
theorem spOk:SpOk Tryz.prog E 36 sp where
  det:=fun vs=>by
    unfold sp
    split
    · exact ⟨some (_,_),fun _=>rfl⟩
    · exact ⟨none,fun _=>rfl⟩
  ok:=fun vs k r h=>by
    unfold sp at h
    split at h
    · exact ⟨_,_,spec ⟨_,_⟩ ⟨_,_⟩,h⟩
    · cases h
end clCmp
namespace frCmp
noncomputable def bd:Code:=(Tryz.f40.body).getD .skip
noncomputable def X:Ctx U El:=⟨E,tds,zeros,eqs,aH [(37,cmpI.sp)],100000,10,aB [],fun _=>none⟩
noncomputable def nmR:Norm U:=⟨[],[4],[],[],[],[],[]⟩
noncomputable def RR:ah U El:=fun st=>aL nmR st (aG [4] [])
noncomputable def fr0 (a:Slot) (b:Slot):St U El:=⟨[(0,(.agg [(.int .i64 a.sw),(.int .i64 a.sc),(.int .i64 a.ss)])),(1,(.agg [(.int .i64 b.sw),(.int .i64 b.sc),(.int .i64 b.ss)]))],[]⟩
noncomputable def sh0 (a:Slot) (b:Slot):R :=
  some ((.int .i64 (cw a.ss b.ss)),[])
theorem P0 (a b):ak X (cdp [] bd) .d (fr0 a b) RR (fun _ _=>none) RR=sh0 a b:=by kernel_rfl
noncomputable def f0 (a:Slot) (b:Slot):R:=sh0 a b
theorem T0 (a b):ak X bd .d (fr0 a b) RR (fun _ _=>none) RR=f0 a b:=by
  refine (P0 a b).trans ?_
  show _=sh0 a b
  rfl
theorem run (a b):aS X bd .d nmR [4] [] [(.agg [(.int .i64 a.sw),(.int .i64 a.sc),(.int .i64 a.ss)]),(.agg [(.int .i64 b.sw),(.int .i64 b.sc),(.int .i64 b.ss)])]=f0 a b:=T0 a b
theorem f0_eq (a b:Slot):f0 a b=bO (cw a.ss b.ss):=rfl
theorem ok:CtxOk Tryz.prog X:=aO tab (spC cmpI.spOk spN) dpN
theorem okM:MOk Tryz.prog X:=fun g sp h=>by cases h
theorem spec (a:Slot) (b:Slot):ar Tryz.prog E 40 [(.agg [(.int .i64 a.sw),(.int .i64 a.sc),(.int .i64 a.ss)]),(.agg [(.int .i64 b.sw),(.int .i64 b.sc),(.int .i64 b.ss)])] (.int .i64 (cw (Slot.ss a) (Slot.ss b))) [] :=
  al ok okM Tryz.call40 Tryz.func40 (by kernel_rfl) (by kernel_rfl) (by kernel_rfl) (by show 2≤10; decide) (by decide) (by rfl) ((run a b).trans (f0_eq a b))
noncomputable def sp:Sp U El:=fun args k=>match args with
  | [.agg [.int .i64 a_sw,.int .i64 a_sc,.int .i64 a_ss],.agg [.int .i64 b_sw,.int .i64 b_sc,.int .i64 b_ss]]=>k (.int .i64 (cw (Slot.ss (⟨a_sw,a_sc,a_ss⟩:Slot)) (Slot.ss (⟨b_sw,b_sc,b_ss⟩:Slot)))) []
  | _=>none
theorem spOk:SpOk Tryz.prog E 40 sp where
  det:=fun vs=>by
    unfold sp
    split
    · exact ⟨some (_,_),fun _=>rfl⟩
    · exact ⟨none,fun _=>rfl⟩
  ok:=fun vs k r h=>by
    unfold sp at h
    split at h
    · exact ⟨_,_,spec ⟨_,_,_⟩ ⟨_,_,_⟩,h⟩
    · cases h
end frCmp
namespace txCmp
noncomputable def bd:Code:=(Tryz.f43.body).getD .skip
noncomputable def X:Ctx U El:=⟨E,tds,zeros,eqs,aH [(37,cmpI.sp)],100000,10,aB [],fun _=>none⟩
noncomputable def nmR:Norm U:=⟨[],[4],[],[],[],[],[]⟩
noncomputable def RR:ah U El:=fun st=>aL nmR st (aG [4] [])
noncomputable def fr0 (a:Slot) (b:Slot):St U El:=⟨[(0,(.agg [(.int .i64 a.sw),(.int .i64 a.sc),(.int .i64 a.ss)])),(1,(.agg [(.int .i64 b.sw),(.int .i64 b.sc),(.int .i64 b.ss)]))],[]⟩
noncomputable def sh0 (a:Slot) (b:Slot):R :=
  some ((.int .i64 (cw a.ss b.ss)),[])
theorem P0 (a b):ak X (cdp [] bd) .d (fr0 a b) RR (fun _ _=>none) RR=sh0 a b:=by kernel_rfl
noncomputable def f0 (a:Slot) (b:Slot):R:=sh0 a b
theorem T0 (a b):ak X bd .d (fr0 a b) RR (fun _ _=>none) RR=f0 a b:=by
  refine (P0 a b).trans ?_
  show _=sh0 a b
  rfl
theorem run (a b):aS X bd .d nmR [4] [] [(.agg [(.int .i64 a.sw),(.int .i64 a.sc),(.int .i64 a.ss)]),(.agg [(.int .i64 b.sw),(.int .i64 b.sc),(.int .i64 b.ss)])]=f0 a b:=T0 a b
theorem f0_eq (a b:Slot):f0 a b=bO (cw a.ss b.ss):=rfl
theorem ok:CtxOk Tryz.prog X:=aO tab (spC cmpI.spOk spN) dpN
theorem okM:MOk Tryz.prog X:=fun g sp h=>by cases h
theorem spec (a:Slot) (b:Slot):ar Tryz.prog E 43 [(.agg [(.int .i64 a.sw),(.int .i64 a.sc),(.int .i64 a.ss)]),(.agg [(.int .i64 b.sw),(.int .i64 b.sc),(.int .i64 b.ss)])] (.int .i64 (cw (Slot.ss a) (Slot.ss b))) [] :=
  al ok okM Tryz.call43 Tryz.func43 (by kernel_rfl) (by kernel_rfl) (by kernel_rfl) (by show 2≤10; decide) (by decide) (by rfl) ((run a b).trans (f0_eq a b))
noncomputable def sp:Sp U El:=fun args k=>match args with
  | [.agg [.int .i64 a_sw,.int .i64 a_sc,.int .i64 a_ss],.agg [.int .i64 b_sw,.int .i64 b_sc,.int .i64 b_ss]]=>k (.int .i64 (cw (Slot.ss (⟨a_sw,a_sc,a_ss⟩:Slot)) (Slot.ss (⟨b_sw,b_sc,b_ss⟩:Slot)))) []
  | _=>none
theorem spOk:SpOk Tryz.prog E 43 sp where
  det:=fun vs=>by
    unfold sp
    split
    · exact ⟨some (_,_),fun _=>rfl⟩
    · exact ⟨none,fun _=>rfl⟩
  ok:=fun vs k r h=>by
    unfold sp at h
    split at h
    · exact ⟨_,_,spec ⟨_,_,_⟩ ⟨_,_,_⟩,h⟩
    · cases h
end txCmp
end Go.Proofs.YthdklallcljhlaaGreatDoor
