/- The law ScheduleAnswers: its own run comes to true. -/
import Derived.Test.YthdklallcljhlaaGreatDoorCD
import Derived.Test.YthdklallcljhlaaGreatDoorAW
import Derived.Shelf.Strings.Split
import Derived.Shelf.Strings.Cut
import Derived.Test.YthdklallcljhlaaGreatDoorIT
import Derived.Test.YthdklallcljhlaaGreatDoorVA
namespace Go.Proofs.YthdklallcljhlaaGreatDoor
set_option linter.unusedSectionVars false
set_option linter.unusedSimpArgs false
set_option linter.unusedVariables false
set_option maxRecDepth 100000
theorem mB:Go.Sort.SWO ltS:=om ▸ rY
theorem ib (l:List Work) (p:List Slot) (st:List UInt8):jx (dt l p st)=aX l p st:=by
  rw [jC]
  unfold aX dt byL
  rw [qh (lt:=ltS) (spT l) (fun a b=>rfl),hQ mB]
theorem ro (l:List Work) (p:List Slot) (st:List UInt8):(dt l p st).length=(aX l p st).length:=by
  rw [← ib,jC]
  exact (bW _).length_eq.symm
theorem oq {f:Nat→Bool}:∀ (n k:Nat),dI f n k=false→∀ j,k≤j→j < k+n→f j=false:=by
  intro n
  induction n with
  | zero=>intro k _ j h1 h2; omega
  | succ n ih =>
    intro k h j h1 h2
    simp only [dI,Bool.or_eq_false_iff] at h
    by_cases e:j=k
    · subst e; exact h.1
    · exact ih (k+1) h.2 j (by omega) (by omega)
theorem sK (a b c d e:Bool) (r:Int):(bif a then (25:Int) else bif b then 11 else bif c then 2 else bif d then 17 else bif e then 10 else r)=0→e=false:=by
  cases a<;>cases b<;>cases c<;>cases d<;>cases e<;>simp
theorem nC {l:List Work} {p:List Slot} (h:aL l 12 p=0) (hG:GP l p) {i k:Nat} (hi:i < l.length) (hk:k < l.length) (hik:k≠i) (hc:(List.getD p k ae).sc=(List.getD p i ae).sc) :
    bh l (List.getD p i ae)≤(List.getD p k ae).ss∨bh l (List.getD p k ae)≤(List.getD p i ae).ss:=by
  have hf:=(gl h).2.2 i hi
  have hcr:eT l p i k=false:=by
    unfold en at hf
    have h5:dI (eT l p i) l.length 0=false:=sK _ _ _ _ _ _ hf
    exact oq _ _ h5 k (by omega) (by omega)
  have gi:=hG.sl _ (show List.getD p i ae∈p by rw [az (by rw [hG.lp]; exact hi)]; exact List.getElem_mem _)
  have gk:=hG.sl _ (show List.getD p k ae∈p by rw [az (by rw [hG.lp]; exact hk)]; exact List.getElem_mem _)
  have ei:=gi.e; have ek:=gk.e
  rw [hG.ix i hi,ar] at ei
  rw [hG.ix k hk,ar] at ek
  unfold eT mj at hcr
  rw [show ((List.getD p k ae).sc == (List.getD p i ae).sc)=true from beq_iff_eq.2 hc,Bool.and_true] at hcr
  rw [ei,ek]
  by_cases h1:(List.getD p i ae).ss+(List.getD l i ac).wh≤(List.getD p k ae).ss
  · exact .inl h1
  · by_cases h2 : (List.getD p k ae).ss + (List.getD l k ac).wh ≤ (List.getD p i ae).ss
    · exact .inr h2
    · exfalso
      have h3:((k:Int) == (i:Int))=false:=beq_eq_false_iff_ne.2 fun e=>hik (Int.ofNat.inj e)
      rw [kV (by omega),kV (by omega),h3] at hcr
      cases hcr
def rE (l:List Work) (a b:Slot):Prop:=a.sc=b.sc→bh l a≤b.ss∨bh l b≤a.ss
theorem pf {l:List Work} {p:List Slot} (h:aL l 12 p=0) (hG:GP l p):p.Pairwise (rE l):=by
  rw [List.pairwise_iff_getElem]
  intro i j hi hj hij hc
  have hlp:=hG.lp
  have:=nC h hG (i:=i) (k:=j) (by omega) (by omega) (by omega) (by rw [az hi,az hj]; exact hc.symm)
  rw [az hi,az hj] at this
  exact this
end Go.Proofs.YthdklallcljhlaaGreatDoor

namespace Go.Proofs.YthdklallcljhlaaGreatDoor
set_option linter.unusedSectionVars false
set_option linter.unusedSimpArgs false
set_option linter.unusedVariables false
set_option maxRecDepth 100000
noncomputable def dW (l:List Work) (s:Slot):Bool:=inb s.sw l.length
noncomputable def br (l:List Work) (who n fr:Int) (s:Slot):Bool:=s.sc == who&&(ilt s.ss (IntKind.wrap .i64 (fr+n))&&ilt fr (bh l s))
noncomputable def dX (nm:List UInt8) (w:Work):Bool:=w.wn == nm
noncomputable def iw (x y:Span):Bool:=x.slo == y.slo&&(x.shi == y.shi&&true)
namespace bz1
noncomputable def bd:Code:=(Tryz.f21.body).getD .skip
noncomputable def X:Ctx U El:=⟨E,tds,zeros,eqs,aK [],100000,32,aC [],fun _=>none⟩
noncomputable def nmR:Norm U:=⟨[],[6],[],[],[],[],[]⟩
noncomputable def RR:ai U El:=fun st=>aN nmR st (aJ [6] [])
noncomputable def fr0 (x:Slot) (who:Int) (fr:Int) (hn:Int) (lw:List Work):St U El:=⟨[(0,(.agg [(.int .i64 x.sw),(.int .i64 x.sc),(.int .i64 x.ss)])),(1,(.pcs [(.int .i64 who)] 0)),(2,(.pcs [(.int .i64 fr)] 0)),(3,(.pcs [(.int .i64 hn)] 0)),(4,(.pcs [(.lst .work lw)] 0))],[]⟩
noncomputable def sh0 (x:Slot) (who:Int) (fr:Int) (hn:Int) (lw:List Work):R :=
  aj (x.sc == who) (aj (ilt x.ss (IntKind.wrap .i64 (fr+hn))) (chk (inb x.sw (List.length lw)) (some ((.bool (ilt fr (IntKind.wrap .i64 (x.ss+(List.getD lw (Int.toNat x.sw) ac).wh)))),[]))) (some ((.bool false),[]))) (some ((.bool false),[]))
theorem P0 (x who fr hn lw):al X (cdp [] bd) .d (fr0 x who fr hn lw) RR (fun _ _=>none) RR=sh0 x who fr hn lw:=by kernel_rfl
noncomputable def f0 (x:Slot) (who:Int) (fr:Int) (hn:Int) (lw:List Work):R:=sh0 x who fr hn lw
theorem T0 (x who fr hn lw):al X bd .d (fr0 x who fr hn lw) RR (fun _ _=>none) RR=f0 x who fr hn lw:=by
  refine (P0 x who fr hn lw).trans ?_
  show _=sh0 x who fr hn lw
  rfl
theorem run (x who fr hn lw):aY X bd .d nmR [6] [] [(.agg [(.int .i64 x.sw),(.int .i64 x.sc),(.int .i64 x.ss)]),(.pcs [(.int .i64 who)] 0),(.pcs [(.int .i64 fr)] 0),(.pcs [(.int .i64 hn)] 0),(.pcs [(.lst .work lw)] 0)]=f0 x who fr hn lw:=T0 x who fr hn lw
theorem f0_eq (x:Slot) (who fr hn:Int) (lw:List Work) (h:(dW lw x)=true):f0 x who fr hn lw=bz (br lw who hn fr x):=by
  show sh0 x who fr hn lw=_
  unfold sh0 br
  rw [show inb x.sw lw.length=true from h,b8]
  cases (x.sc == who) with
  | false=>rfl
  | true=>cases ilt x.ss (IntKind.wrap .i64 (fr+hn))<;>rfl
theorem ok:CtxOk Tryz.prog X:=aW tab spN dpN
theorem okM:MOk Tryz.prog X:=fun g sp h=>by cases h
theorem spec (x:Slot) (who:Int) (fr:Int) (hn:Int) (lw:List Work) (h:((dW lw) x)=true):aq Tryz.prog E 21 [(.agg [(.int .i64 x.sw),(.int .i64 x.sc),(.int .i64 x.ss)]),(.pcs [(.int .i64 who)] 0),(.pcs [(.int .i64 fr)] 0),(.pcs [(.int .i64 hn)] 0),(.pcs [(.lst .work lw)] 0)] (.bool ((br lw who hn fr) x)) [] :=
  ap ok okM Tryz.call21 Tryz.func21 (by kernel_rfl) (by kernel_rfl) (by kernel_rfl) (by show 5≤32; decide) (by decide) (by rfl) ((run x who fr hn lw).trans (f0_eq x who fr hn lw h))
noncomputable def sp:Sp U El:=fun args k=>match args with
  | [.agg [.int .i64 x_sw,.int .i64 x_sc,.int .i64 x_ss],.pcs [.int .i64 who] 0,.pcs [.int .i64 fr] 0,.pcs [.int .i64 hn] 0,.pcs [.lst .work lw] 0]=>chk ((dW lw) (⟨x_sw,x_sc,x_ss⟩:Slot)) (k (.bool ((br lw who hn fr) (⟨x_sw,x_sc,x_ss⟩:Slot))) [])
  | _=>none
theorem spOk:SpOk Tryz.prog E 21 sp where
  det:=fun vs=>by
    unfold sp
    split
    · exact bq _ _ _
    · exact ⟨none,fun _=>rfl⟩
  ok:=fun vs k r h=>by
    unfold sp at h
    split at h
    · obtain ⟨h1, h2⟩ := ab h
      exact ⟨_,_,spec ⟨_,_,_⟩ _ _ _ _ h1,h2⟩
    · cases h
end bz1
namespace bz1X
noncomputable def bd:Code:=(Tryz.f55.body).getD .skip
noncomputable def X:Ctx U El:=⟨E,tds,zeros,eqs,aK [(21,bz1.sp)],100000,19,aC [],fun _=>none⟩
noncomputable def nmR:Norm U:=⟨[],[4],[],[],[],[],[]⟩
noncomputable def RR:ai U El:=fun st=>aN nmR st (aJ [4] [])
noncomputable def nm1:Norm U:=⟨[],[],[],[],[],[],[]⟩
noncomputable def nm2:Norm U:=⟨[],[0,1,7,8],[],[],[],[],[]⟩
abbrev Y1:=R
abbrev Y2:=(List Slot)→Int→Int→Int→(List Work)→Int→Int→R
noncomputable def fr0 (l:List Slot) (who:Int) (fr:Int) (hn:Int) (lw:List Work):St U El:=⟨[(0,(.lst .slot l)),(1,(.fn 21 [] [(.pcs [(.int .i64 who)] 0),(.pcs [(.int .i64 fr)] 0),(.pcs [(.int .i64 hn)] 0),(.pcs [(.lst .work lw)] 0)]))],[]⟩
noncomputable def fr1:St U El:=⟨[],[]⟩
noncomputable def fr2 (s0:List Slot) (f1c_0:Int) (f1c_0_1:Int) (f1c_0_2:Int) (f1c_0_3:List Work) (x7:Int) (x8:Int):St U El:=⟨[(0,(.lst .slot s0)),(1,(.fn 21 [] [(.pcs [(.int .i64 f1c_0)] 0),(.pcs [(.int .i64 f1c_0_1)] 0),(.pcs [(.int .i64 f1c_0_2)] 0),(.pcs [(.lst .work f1c_0_3)] 0)])),(7,(.int .i64 x7)),(8,(.int .i64 x8))],[]⟩
noncomputable def sh0 (l:List Slot) (who:Int) (fr:Int) (hn:Int) (lw:List Work) (k2:Y2):R :=
  k2 l who fr hn lw (Int.ofNat (List.length l)) (0:Int)
noncomputable def sh1:R :=
  some ((.int .i64 (-1:Int)),[])
noncomputable def sh2 (s0:List Slot) (f1c_0:Int) (f1c_0_1:Int) (f1c_0_2:Int) (f1c_0_3:List Work) (x7:Int) (x8:Int) (k1:Y1) (k2:Y2):R :=
  aj (ilt x8 x7) (chk (inb x8 (List.length s0)) (chk ((dW f1c_0_3) (List.getD s0 (Int.toNat x8) ae)) (aj ((br f1c_0_3 f1c_0 f1c_0_2 f1c_0_1) (List.getD s0 (Int.toNat x8) ae)) (some ((.int .i64 x8),[])) (k2 s0 f1c_0 f1c_0_1 f1c_0_2 f1c_0_3 x7 (IntKind.wrap .i64 (x8+(1:Int))))))) (k1)
noncomputable def it2 (Kb1:ai U El) (n:Nat):ai U El:=cP nm2 (fun st' K'=>al X (cdp [1,0,1,0,0] bd) .d st' K' (aS 0 (aF nm1 Kb1) (fun _ _=>none)) RR) n
noncomputable def ct1:ai U El:=fun st=>al X (cdp [1,1] bd) .d st RR (fun _ _=>none) RR
theorem P0 (l who fr hn lw):al X (cdp [] bd) (.seq none .d (.seq (some nm1) (.seq none .d (.block (.loop nm2 .d))) .d)) (fr0 l who fr hn lw) RR (fun _ _=>none) RR=sh0 l who fr hn lw (fun y0 y1 y2 y3 y4 y5 y6=>(hid (it2 (hid ct1) 100000)) (fr2 y0 y1 y2 y3 y4 y5 y6)):=by kernel_rfl
theorem P1:ct1 (fr1)=sh1:=by kernel_rfl
theorem P2 (s0 f1c_0 f1c_0_1 f1c_0_2 f1c_0_3 x7 x8) (Kb1 Kb2:ai U El):al X (cdp [1,0,1,0,0] bd) .d (fr2 s0 f1c_0 f1c_0_1 f1c_0_2 f1c_0_3 x7 x8) (aF nm2 Kb2) (aS 0 (aF nm1 Kb1) (fun _ _=>none)) RR=sh2 s0 f1c_0 f1c_0_1 f1c_0_2 f1c_0_3 x7 x8 (Kb1 (fr1)) (fun y0 y1 y2 y3 y4 y5 y6=>Kb2 (fr2 y0 y1 y2 y3 y4 y5 y6)):=by kernel_rfl
noncomputable def f1:R:=sh1
noncomputable def f2:Nat→Y2
  | 0=>fun _ _ _ _ _ _ _=>none
  | n+1=>fun s0 f1c_0 f1c_0_1 f1c_0_2 f1c_0_3 x7 x8=>sh2 s0 f1c_0 f1c_0_1 f1c_0_2 f1c_0_3 x7 x8 f1 (f2 n)
noncomputable def f0 (l:List Slot) (who:Int) (fr:Int) (hn:Int) (lw:List Work):R:=sh0 l who fr hn lw (f2 100000)
theorem T1:(hid ct1) (fr1)=f1:=by
  refine (congrFun (au _) _).trans <| (P1).trans ?_
  show _=sh1
  rfl
theorem T2:∀ (n:Nat),∀ s0 f1c_0 f1c_0_1 f1c_0_2 f1c_0_3 x7 x8,it2 (hid ct1) n (fr2 s0 f1c_0 f1c_0_1 f1c_0_2 f1c_0_3 x7 x8)=f2 n s0 f1c_0 f1c_0_1 f1c_0_2 f1c_0_3 x7 x8:=by
  intro n
  induction n with
  | zero=>intros; rfl
  | succ n ih =>
    intro s0 f1c_0 f1c_0_1 f1c_0_2 f1c_0_3 x7 x8
    refine (P2 s0 f1c_0 f1c_0_1 f1c_0_2 f1c_0_3 x7 x8 (hid ct1) (it2 (hid ct1) n)).trans ?_
    show _=sh2 s0 f1c_0 f1c_0_1 f1c_0_2 f1c_0_3 x7 x8 f1 (f2 n)
    simp only [T1,ih]
theorem H2 (s0 f1c_0 f1c_0_1 f1c_0_2 f1c_0_3 x7 x8):hid (it2 (hid ct1) 100000) (fr2 s0 f1c_0 f1c_0_1 f1c_0_2 f1c_0_3 x7 x8)=f2 100000 s0 f1c_0 f1c_0_1 f1c_0_2 f1c_0_3 x7 x8:=(congrFun (au _) _).trans (T2 100000 s0 f1c_0 f1c_0_1 f1c_0_2 f1c_0_3 x7 x8)
theorem T0 (l who fr hn lw):al X bd (.seq none .d (.seq (some nm1) (.seq none .d (.block (.loop nm2 .d))) .d)) (fr0 l who fr hn lw) RR (fun _ _=>none) RR=f0 l who fr hn lw:=by
  refine (P0 l who fr hn lw).trans ?_
  show _=sh0 l who fr hn lw (f2 100000)
  simp only [H2]
theorem run (l who fr hn lw):aY X bd (.seq none .d (.seq (some nm1) (.seq none .d (.block (.loop nm2 .d))) .d)) nmR [4] [] [(.lst .slot l),(.fn 21 [] [(.pcs [(.int .i64 who)] 0),(.pcs [(.int .i64 fr)] 0),(.pcs [(.int .i64 hn)] 0),(.pcs [(.lst .work lw)] 0)])]=f0 l who fr hn lw:=T0 l who fr hn lw
theorem f0_eq (l:List Slot) (who:Int) (fr:Int) (hn:Int) (lw:List Work) (h:((nle (List.length l) 90000&&List.all l (dW lw)))=true):f0 l who fr hn lw=cW (aZ (br lw who hn fr) 0 l):=by
  simp only [Bool.and_eq_true] at h
  have ha:=List.all_eq_true.1 h.2
  have hl:=du h.1
  refine (gg l (by omega) (fun n_ (_:Unit) i_=>f2 n_ l who fr hn lw (Int.ofNat l.length) i_) _ (fun _=>cW (-1)) (fun n_ u_ i_ hi_ => ?_) (fun n_ u_ => ?_) 100000 0 () (by omega) (by omega)).trans (dU (br lw who hn fr) cW l 0)
  · show sh2 l who fr hn lw (Int.ofNat l.length) i_ f1 (f2 n_) = _
    unfold sh2
    rw [ci (by simp; omega),bD hi_,ar,az hi_,ha l[i_] (List.getElem_mem hi_)]
    rfl
  · show sh2 l who fr hn lw (Int.ofNat l.length) (l.length : Int) f1 (f2 n_) = _
    unfold sh2
    rw [bZ (by simp)]
    rfl
theorem ok:CtxOk Tryz.prog X:=aW tab (spC bz1.spOk spN) dpN
theorem okM:MOk Tryz.prog X:=fun g sp h=>by cases h
theorem spec (l:List Slot) (who:Int) (fr:Int) (hn:Int) (lw:List Work) (h:((nle (List.length l) 90000&&List.all l (dW lw)))=true):aq Tryz.prog E 55 [(.lst .slot l),(.fn 21 [] [(.pcs [(.int .i64 who)] 0),(.pcs [(.int .i64 fr)] 0),(.pcs [(.int .i64 hn)] 0),(.pcs [(.lst .work lw)] 0)])] (.int .i64 (aZ (br lw who hn fr) 0 l)) [] :=
  ap ok okM Tryz.call55 Tryz.func55 (by kernel_rfl) (by kernel_rfl) (by kernel_rfl) (by show 2≤19; decide) (by decide) (by rfl) ((run l who fr hn lw).trans (f0_eq l who fr hn lw h))
noncomputable def sp:Sp U El:=fun args k=>match args with
  | [.lst .slot l,.fn 21 [] [.pcs [.int .i64 who] 0,.pcs [.int .i64 fr] 0,.pcs [.int .i64 hn] 0,.pcs [.lst .work lw] 0]]=>chk ((nle (List.length l) 90000&&List.all l (dW lw))) (k (.int .i64 (aZ (br lw who hn fr) 0 l)) [])
  | _=>none
theorem spOk:SpOk Tryz.prog E 55 sp where
  det:=fun vs=>by
    unfold sp
    split
    · exact bq _ _ _
    · exact ⟨none,fun _=>rfl⟩
  ok:=fun vs k r h=>by
    unfold sp at h
    split at h
    · obtain ⟨h1, h2⟩ := ab h
      exact ⟨_,_,spec _ _ _ _ _ h1,h2⟩
    · cases h
end bz1X
namespace bz1C
noncomputable def bd:Code:=(Tryz.f20.body).getD .skip
noncomputable def X:Ctx U El:=⟨E,tds,zeros,eqs,aK [(55,bz1X.sp)],100000,9,aC [],fun _=>none⟩
noncomputable def nmR:Norm U:=⟨[],[4],[],[],[],[],[]⟩
noncomputable def RR:ai U El:=fun st=>aN nmR st (aJ [4] [])
noncomputable def fr0 (l:List Slot) (who:Int) (fr:Int) (hn:Int) (lw:List Work):St U El:=⟨[(0,(.lst .slot l)),(1,(.fn 21 [] [(.pcs [(.int .i64 who)] 0),(.pcs [(.int .i64 fr)] 0),(.pcs [(.int .i64 hn)] 0),(.pcs [(.lst .work lw)] 0)]))],[]⟩
noncomputable def sh0 (l:List Slot) (who:Int) (fr:Int) (hn:Int) (lw:List Work):R :=
  chk ((nle (List.length l) 90000&&List.all l (dW lw))) (some ((.bool (ile (0:Int) (aZ (br lw who hn fr) 0 l))),[]))
theorem P0 (l who fr hn lw):al X (cdp [] bd) .d (fr0 l who fr hn lw) RR (fun _ _=>none) RR=sh0 l who fr hn lw:=by kernel_rfl
noncomputable def f0 (l:List Slot) (who:Int) (fr:Int) (hn:Int) (lw:List Work):R:=sh0 l who fr hn lw
theorem T0 (l who fr hn lw):al X bd .d (fr0 l who fr hn lw) RR (fun _ _=>none) RR=f0 l who fr hn lw:=by
  refine (P0 l who fr hn lw).trans ?_
  show _=sh0 l who fr hn lw
  rfl
theorem run (l who fr hn lw):aY X bd .d nmR [4] [] [(.lst .slot l),(.fn 21 [] [(.pcs [(.int .i64 who)] 0),(.pcs [(.int .i64 fr)] 0),(.pcs [(.int .i64 hn)] 0),(.pcs [(.lst .work lw)] 0)])]=f0 l who fr hn lw:=T0 l who fr hn lw
theorem f0_eq (l:List Slot) (who:Int) (fr:Int) (hn:Int) (lw:List Work) (h:((nle (List.length l) 90000&&List.all l (dW lw)))=true):f0 l who fr hn lw=bz (List.any l (br lw who hn fr)):=by
  show chk _ (bz _)=_
  rw [h,b8,dV]
theorem ok:CtxOk Tryz.prog X:=aW tab (spC bz1X.spOk spN) dpN
theorem okM:MOk Tryz.prog X:=fun g sp h=>by cases h
theorem spec (l:List Slot) (who:Int) (fr:Int) (hn:Int) (lw:List Work) (h:((nle (List.length l) 90000&&List.all l (dW lw)))=true):aq Tryz.prog E 20 [(.lst .slot l),(.fn 21 [] [(.pcs [(.int .i64 who)] 0),(.pcs [(.int .i64 fr)] 0),(.pcs [(.int .i64 hn)] 0),(.pcs [(.lst .work lw)] 0)])] (.bool (List.any l (br lw who hn fr))) [] :=
  ap ok okM Tryz.call20 Tryz.func20 (by kernel_rfl) (by kernel_rfl) (by kernel_rfl) (by show 2≤9; decide) (by decide) (by rfl) ((run l who fr hn lw).trans (f0_eq l who fr hn lw h))
noncomputable def sp:Sp U El:=fun args k=>match args with
  | [.lst .slot l,.fn 21 [] [.pcs [.int .i64 who] 0,.pcs [.int .i64 fr] 0,.pcs [.int .i64 hn] 0,.pcs [.lst .work lw] 0]]=>chk ((nle (List.length l) 90000&&List.all l (dW lw))) (k (.bool (List.any l (br lw who hn fr))) [])
  | _=>none
theorem spOk:SpOk Tryz.prog E 20 sp where
  det:=fun vs=>by
    unfold sp
    split
    · exact bq _ _ _
    · exact ⟨none,fun _=>rfl⟩
  ok:=fun vs k r h=>by
    unfold sp at h
    split at h
    · obtain ⟨h1, h2⟩ := ab h
      exact ⟨_,_,spec _ _ _ _ _ h1,h2⟩
    · cases h
end bz1C
namespace busy
noncomputable def bd:Code:=(Tryz.f19.body).getD .skip
noncomputable def X:Ctx U El:=⟨E,tds,zeros,eqs,aK [(20,bz1C.sp)],100000,10,aC [],fun _=>none⟩
noncomputable def nmR:Norm U:=⟨[],[6],[],[],[],[],[]⟩
noncomputable def RR:ai U El:=fun st=>aN nmR st (aJ [6] [])
noncomputable def fr0 (fr:Int) (pl:List Slot) (who:Int) (hn:Int) (lw:List Work):St U El:=⟨[(0,(.int .i64 fr)),(1,(.pcs [(.lst .slot pl)] 0)),(2,(.pcs [(.int .i64 who)] 0)),(3,(.pcs [(.int .i64 hn)] 0)),(4,(.pcs [(.lst .work lw)] 0))],[]⟩
noncomputable def sh0 (fr:Int) (pl:List Slot) (who:Int) (hn:Int) (lw:List Work):R :=
  chk ((nle (List.length pl) 90000&&List.all pl (dW lw))) (some ((.bool (List.any pl (br lw who hn fr))),[]))
theorem P0 (fr pl who hn lw):al X (cdp [] bd) .d (fr0 fr pl who hn lw) RR (fun _ _=>none) RR=sh0 fr pl who hn lw:=by kernel_rfl
noncomputable def f0 (fr:Int) (pl:List Slot) (who:Int) (hn:Int) (lw:List Work):R:=sh0 fr pl who hn lw
theorem T0 (fr pl who hn lw):al X bd .d (fr0 fr pl who hn lw) RR (fun _ _=>none) RR=f0 fr pl who hn lw:=by
  refine (P0 fr pl who hn lw).trans ?_
  show _=sh0 fr pl who hn lw
  rfl
theorem run (fr pl who hn lw):aY X bd .d nmR [6] [] [(.int .i64 fr),(.pcs [(.lst .slot pl)] 0),(.pcs [(.int .i64 who)] 0),(.pcs [(.int .i64 hn)] 0),(.pcs [(.lst .work lw)] 0)]=f0 fr pl who hn lw:=T0 fr pl who hn lw
theorem f0_eq (fr:Int) (pl:List Slot) (who hn:Int) (lw:List Work) (h:((nle (List.length pl) 90000&&List.all pl (dW lw)))=true):f0 fr pl who hn lw=bz (List.any pl (br lw who hn fr)):=by
  show sh0 fr pl who hn lw=_
  unfold sh0
  rw [h]
  rfl
theorem ok:CtxOk Tryz.prog X:=aW tab (spC bz1C.spOk spN) dpN
theorem okM:MOk Tryz.prog X:=fun g sp h=>by cases h
theorem spec (fr:Int) (pl:List Slot) (who:Int) (hn:Int) (lw:List Work) (h:((nle (List.length pl) 90000&&List.all pl (dW lw)))=true):aq Tryz.prog E 19 [(.int .i64 fr),(.pcs [(.lst .slot pl)] 0),(.pcs [(.int .i64 who)] 0),(.pcs [(.int .i64 hn)] 0),(.pcs [(.lst .work lw)] 0)] (.bool (List.any pl (br lw who hn fr))) [] :=
  ap ok okM Tryz.call19 Tryz.func19 (by kernel_rfl) (by kernel_rfl) (by kernel_rfl) (by show 5≤10; decide) (by decide) (by rfl) ((run fr pl who hn lw).trans (f0_eq fr pl who hn lw h))
noncomputable def sp:Sp U El:=fun args k=>match args with
  | [.int .i64 fr,.pcs [.lst .slot pl] 0,.pcs [.int .i64 who] 0,.pcs [.int .i64 hn] 0,.pcs [.lst .work lw] 0]=>chk ((nle (List.length pl) 90000&&List.all pl (dW lw))) (k (.bool (List.any pl (br lw who hn fr))) [])
  | _=>none
theorem spOk:SpOk Tryz.prog E 19 sp where
  det:=fun vs=>by
    unfold sp
    split
    · exact bq _ _ _
    · exact ⟨none,fun _=>rfl⟩
  ok:=fun vs k r h=>by
    unfold sp at h
    split at h
    · obtain ⟨h1, h2⟩ := ab h
      exact ⟨_,_,spec _ _ _ _ _ h1,h2⟩
    · cases h
end busy
namespace nm1
noncomputable def bd:Code:=(Tryz.f25.body).getD .skip
noncomputable def X:Ctx U El:=⟨E,tds,zeros,eqs,aK [],100000,8,aC [],fun _=>none⟩
noncomputable def nmR:Norm U:=⟨[],[3],[],[],[],[],[]⟩
noncomputable def RR:ai U El:=fun st=>aN nmR st (aJ [3] [])
noncomputable def fr0 (x:Work) (nm:List UInt8):St U El:=⟨[(0,(.agg [(.str x.wn),(.int .i64 x.wh),(.lst .int x.wc),(.str x.ws),(.lst .int x.wa),(.int .i64 x.wd),(.int .i64 x.wp)])),(1,(.pcs [(.str nm)] 0))],[]⟩
noncomputable def sh0 (x:Work) (nm:List UInt8):R :=
  some ((.bool (x.wn == nm)),[])
theorem P0 (x nm):al X (cdp [] bd) .d (fr0 x nm) RR (fun _ _=>none) RR=sh0 x nm:=by kernel_rfl
noncomputable def f0 (x:Work) (nm:List UInt8):R:=sh0 x nm
theorem T0 (x nm):al X bd .d (fr0 x nm) RR (fun _ _=>none) RR=f0 x nm:=by
  refine (P0 x nm).trans ?_
  show _=sh0 x nm
  rfl
theorem run (x nm):aY X bd .d nmR [3] [] [(.agg [(.str x.wn),(.int .i64 x.wh),(.lst .int x.wc),(.str x.ws),(.lst .int x.wa),(.int .i64 x.wd),(.int .i64 x.wp)]),(.pcs [(.str nm)] 0)]=f0 x nm:=T0 x nm
theorem f0_eq (x:Work) (nm:List UInt8):f0 x nm=bz (dX nm x):=rfl
theorem ok:CtxOk Tryz.prog X:=aW tab spN dpN
theorem okM:MOk Tryz.prog X:=fun g sp h=>by cases h
theorem spec (x:Work) (nm:List UInt8):aq Tryz.prog E 25 [(.agg [(.str x.wn),(.int .i64 x.wh),(.lst .int x.wc),(.str x.ws),(.lst .int x.wa),(.int .i64 x.wd),(.int .i64 x.wp)]),(.pcs [(.str nm)] 0)] (.bool ((dX nm) x)) [] :=
  ap ok okM Tryz.call25 Tryz.func25 (by kernel_rfl) (by kernel_rfl) (by kernel_rfl) (by show 2≤8; decide) (by decide) (by rfl) ((run x nm).trans (f0_eq x nm))
noncomputable def sp:Sp U El:=fun args k=>match args with
  | [.agg [.str x_wn,.int .i64 x_wh,.lst .int x_wc,.str x_ws,.lst .int x_wa,.int .i64 x_wd,.int .i64 x_wp],.pcs [.str nm] 0]=>k (.bool ((dX nm) (⟨x_wn,x_wh,x_wc,x_ws,x_wa,x_wd,x_wp⟩:Work))) []
  | _=>none
theorem spOk:SpOk Tryz.prog E 25 sp where
  det:=fun vs=>by
    unfold sp
    split
    · exact ⟨some (_,_),fun _=>rfl⟩
    · exact ⟨none,fun _=>rfl⟩
  ok:=fun vs k r h=>by
    unfold sp at h
    split at h
    · exact ⟨_,_,spec ⟨_,_,_,_,_,_,_⟩ _,h⟩
    · cases h
end nm1
namespace nm1X
noncomputable def bd:Code:=(Tryz.f24.body).getD .skip
noncomputable def X:Ctx U El:=⟨E,tds,zeros,eqs,aK [(25,nm1.sp)],100000,19,aC [],fun _=>none⟩
noncomputable def nmR:Norm U:=⟨[],[4],[],[],[],[],[]⟩
noncomputable def RR:ai U El:=fun st=>aN nmR st (aJ [4] [])
noncomputable def nm1:Norm U:=⟨[],[],[],[],[],[],[]⟩
noncomputable def nm2:Norm U:=⟨[],[0,1,7,8],[],[],[],[],[]⟩
abbrev Y1:=R
abbrev Y2:=(List Work)→(List UInt8)→Int→Int→R
noncomputable def fr0 (l:List Work) (nm:List UInt8):St U El:=⟨[(0,(.lst .work l)),(1,(.fn 25 [] [(.pcs [(.str nm)] 0)]))],[]⟩
noncomputable def fr1:St U El:=⟨[],[]⟩
noncomputable def fr2 (s0:List Work) (f1c_0:List UInt8) (x7:Int) (x8:Int):St U El:=⟨[(0,(.lst .work s0)),(1,(.fn 25 [] [(.pcs [(.str f1c_0)] 0)])),(7,(.int .i64 x7)),(8,(.int .i64 x8))],[]⟩
noncomputable def sh0 (l:List Work) (nm:List UInt8) (k2:Y2):R :=
  k2 l nm (Int.ofNat (List.length l)) (0:Int)
noncomputable def sh1:R :=
  some ((.int .i64 (-1:Int)),[])
noncomputable def sh2 (s0:List Work) (f1c_0:List UInt8) (x7:Int) (x8:Int) (k1:Y1) (k2:Y2):R :=
  aj (ilt x8 x7) (chk (inb x8 (List.length s0)) (aj ((dX f1c_0) (List.getD s0 (Int.toNat x8) ac)) (some ((.int .i64 x8),[])) (k2 s0 f1c_0 x7 (IntKind.wrap .i64 (x8+(1:Int)))))) (k1)
noncomputable def it2 (Kb1:ai U El) (n:Nat):ai U El:=cP nm2 (fun st' K'=>al X (cdp [1,0,1,0,0] bd) .d st' K' (aS 0 (aF nm1 Kb1) (fun _ _=>none)) RR) n
noncomputable def ct1:ai U El:=fun st=>al X (cdp [1,1] bd) .d st RR (fun _ _=>none) RR
theorem P0 (l nm):al X (cdp [] bd) (.seq none .d (.seq (some nm1) (.seq none .d (.block (.loop nm2 .d))) .d)) (fr0 l nm) RR (fun _ _=>none) RR=sh0 l nm (fun y0 y1 y2 y3=>(hid (it2 (hid ct1) 100000)) (fr2 y0 y1 y2 y3)):=by kernel_rfl
theorem P1:ct1 (fr1)=sh1:=by kernel_rfl
theorem P2 (s0 f1c_0 x7 x8) (Kb1 Kb2:ai U El):al X (cdp [1,0,1,0,0] bd) .d (fr2 s0 f1c_0 x7 x8) (aF nm2 Kb2) (aS 0 (aF nm1 Kb1) (fun _ _=>none)) RR=sh2 s0 f1c_0 x7 x8 (Kb1 (fr1)) (fun y0 y1 y2 y3=>Kb2 (fr2 y0 y1 y2 y3)):=by kernel_rfl
noncomputable def f1:R:=sh1
noncomputable def f2:Nat→Y2
  | 0=>fun _ _ _ _=>none
  | n+1=>fun s0 f1c_0 x7 x8=>sh2 s0 f1c_0 x7 x8 f1 (f2 n)
noncomputable def f0 (l:List Work) (nm:List UInt8):R:=sh0 l nm (f2 100000)
theorem T1:(hid ct1) (fr1)=f1:=by
  refine (congrFun (au _) _).trans <| (P1).trans ?_
  show _=sh1
  rfl
theorem T2:∀ (n:Nat),∀ s0 f1c_0 x7 x8,it2 (hid ct1) n (fr2 s0 f1c_0 x7 x8)=f2 n s0 f1c_0 x7 x8:=by
  intro n
  induction n with
  | zero=>intros; rfl
  | succ n ih =>
    intro s0 f1c_0 x7 x8
    refine (P2 s0 f1c_0 x7 x8 (hid ct1) (it2 (hid ct1) n)).trans ?_
    show _=sh2 s0 f1c_0 x7 x8 f1 (f2 n)
    simp only [T1,ih]
theorem H2 (s0 f1c_0 x7 x8):hid (it2 (hid ct1) 100000) (fr2 s0 f1c_0 x7 x8)=f2 100000 s0 f1c_0 x7 x8:=(congrFun (au _) _).trans (T2 100000 s0 f1c_0 x7 x8)
theorem T0 (l nm):al X bd (.seq none .d (.seq (some nm1) (.seq none .d (.block (.loop nm2 .d))) .d)) (fr0 l nm) RR (fun _ _=>none) RR=f0 l nm:=by
  refine (P0 l nm).trans ?_
  show _=sh0 l nm (f2 100000)
  simp only [H2]
theorem run (l nm):aY X bd (.seq none .d (.seq (some nm1) (.seq none .d (.block (.loop nm2 .d))) .d)) nmR [4] [] [(.lst .work l),(.fn 25 [] [(.pcs [(.str nm)] 0)])]=f0 l nm:=T0 l nm
theorem f0_eq (l:List Work) (nm:List UInt8) (h:(nle (List.length l) 90000)=true):f0 l nm=cW (aZ (dX nm) 0 l):=by
  have hl:=du h
  refine (gg l (by omega) (fun n_ (_:Unit) i_=>f2 n_ l nm (Int.ofNat l.length) i_) _ (fun _=>cW (-1)) (fun n_ u_ i_ hi_ => ?_) (fun n_ u_ => ?_) 100000 0 () (by omega) (by omega)).trans (dU (dX nm) cW l 0)
  · show sh2 l nm (Int.ofNat l.length) i_ f1 (f2 n_) = _
    unfold sh2
    rw [ci (by simp; omega),bD hi_,ar,az hi_]
    rfl
  · show sh2 l nm (Int.ofNat l.length) (l.length : Int) f1 (f2 n_) = _
    unfold sh2
    rw [bZ (by simp)]
    rfl
theorem ok:CtxOk Tryz.prog X:=aW tab (spC nm1.spOk spN) dpN
theorem okM:MOk Tryz.prog X:=fun g sp h=>by cases h
theorem spec (l:List Work) (nm:List UInt8) (h:(nle (List.length l) 90000)=true):aq Tryz.prog E 24 [(.lst .work l),(.fn 25 [] [(.pcs [(.str nm)] 0)])] (.int .i64 (aZ (dX nm) 0 l)) [] :=
  ap ok okM Tryz.call24 Tryz.func24 (by kernel_rfl) (by kernel_rfl) (by kernel_rfl) (by show 2≤19; decide) (by decide) (by rfl) ((run l nm).trans (f0_eq l nm h))
noncomputable def sp:Sp U El:=fun args k=>match args with
  | [.lst .work l,.fn 25 [] [.pcs [.str nm] 0]]=>chk (nle (List.length l) 90000) (k (.int .i64 (aZ (dX nm) 0 l)) [])
  | _=>none
theorem spOk:SpOk Tryz.prog E 24 sp where
  det:=fun vs=>by
    unfold sp
    split
    · exact bq _ _ _
    · exact ⟨none,fun _=>rfl⟩
  ok:=fun vs k r h=>by
    unfold sp at h
    split at h
    · obtain ⟨h1, h2⟩ := ab h
      exact ⟨_,_,spec _ _ h1,h2⟩
    · cases h
end nm1X
namespace idxP
noncomputable def bd:Code:=(Tryz.f54.body).getD .skip
noncomputable def X:Ctx U El:=⟨E,tds,zeros,eqs,aK [],100000,19,aC [],fun _=>none⟩
noncomputable def nmR:Norm U:=⟨[],[4],[],[],[],[],[]⟩
noncomputable def RR:ai U El:=fun st=>aN nmR st (aJ [4] [])
noncomputable def nm1:Norm U:=⟨[],[],[],[],[],[],[]⟩
noncomputable def nm2:Norm U:=⟨[],[0,3,7,8],[3],[],[],[],[]⟩
abbrev Y1:=R
abbrev Y2:=(List Span)→Int→Int→Span→R
noncomputable def fr0 (l:List Span) (x:Span):St U El:=⟨[(0,(.lst .span l)),(1,(.agg [(.int .i64 x.slo),(.int .i64 x.shi)]))],[]⟩
noncomputable def fr1:St U El:=⟨[],[]⟩
noncomputable def fr2 (s0:List Span) (x7:Int) (x8:Int) (b3:Span):St U El:=⟨[(0,(.lst .span s0)),(3,(.ptr 3 0)),(7,(.int .i64 x7)),(8,(.int .i64 x8))],[(3,(.box 0 [(.int .i64 b3.slo),(.int .i64 b3.shi)]))]⟩
noncomputable def sh0 (l:List Span) (x:Span) (k2:Y2):R :=
  k2 l (Int.ofNat (List.length l)) (0:Int) x
noncomputable def sh1:R :=
  some ((.int .i64 (-1:Int)),[])
noncomputable def sh2 (s0:List Span) (x7:Int) (x8:Int) (b3:Span) (k1:Y1) (k2:Y2):R :=
  aj (ilt x8 x7) (chk (inb x8 (List.length s0)) (aj ((b3.slo == (List.getD s0 (Int.toNat x8) gP).slo)&&((b3.shi == (List.getD s0 (Int.toNat x8) gP).shi)&&true)) (some ((.int .i64 x8),[])) (k2 s0 x7 (IntKind.wrap .i64 (x8+(1:Int))) b3))) (k1)
noncomputable def it2 (Kb1:ai U El) (n:Nat):ai U El:=cP nm2 (fun st' K'=>al X (cdp [1,0,1,0,0] bd) .d st' K' (aS 0 (aF nm1 Kb1) (fun _ _=>none)) RR) n
noncomputable def ct1:ai U El:=fun st=>al X (cdp [1,1] bd) .d st RR (fun _ _=>none) RR
theorem P0 (l x):al X (cdp [] bd) (.seq none .d (.seq (some nm1) (.seq none .d (.block (.loop nm2 .d))) .d)) (fr0 l x) RR (fun _ _=>none) RR=sh0 l x (fun y0 y1 y2 y3=>(hid (it2 (hid ct1) 100000)) (fr2 y0 y1 y2 y3)):=by kernel_rfl
theorem P1:ct1 (fr1)=sh1:=by kernel_rfl
theorem P2 (s0 x7 x8 b3) (Kb1 Kb2:ai U El):al X (cdp [1,0,1,0,0] bd) .d (fr2 s0 x7 x8 b3) (aF nm2 Kb2) (aS 0 (aF nm1 Kb1) (fun _ _=>none)) RR=sh2 s0 x7 x8 b3 (Kb1 (fr1)) (fun y0 y1 y2 y3=>Kb2 (fr2 y0 y1 y2 y3)):=by kernel_rfl
noncomputable def f1:R:=sh1
noncomputable def f2:Nat→Y2
  | 0=>fun _ _ _ _=>none
  | n+1=>fun s0 x7 x8 b3=>sh2 s0 x7 x8 b3 f1 (f2 n)
noncomputable def f0 (l:List Span) (x:Span):R:=sh0 l x (f2 100000)
theorem T1:(hid ct1) (fr1)=f1:=by
  refine (congrFun (au _) _).trans <| (P1).trans ?_
  show _=sh1
  rfl
theorem T2:∀ (n:Nat),∀ s0 x7 x8 b3,it2 (hid ct1) n (fr2 s0 x7 x8 b3)=f2 n s0 x7 x8 b3:=by
  intro n
  induction n with
  | zero=>intros; rfl
  | succ n ih =>
    intro s0 x7 x8 b3
    refine (P2 s0 x7 x8 b3 (hid ct1) (it2 (hid ct1) n)).trans ?_
    show _=sh2 s0 x7 x8 b3 f1 (f2 n)
    simp only [T1,ih]
theorem H2 (s0 x7 x8 b3):hid (it2 (hid ct1) 100000) (fr2 s0 x7 x8 b3)=f2 100000 s0 x7 x8 b3:=(congrFun (au _) _).trans (T2 100000 s0 x7 x8 b3)
theorem T0 (l x):al X bd (.seq none .d (.seq (some nm1) (.seq none .d (.block (.loop nm2 .d))) .d)) (fr0 l x) RR (fun _ _=>none) RR=f0 l x:=by
  refine (P0 l x).trans ?_
  show _=sh0 l x (f2 100000)
  simp only [H2]
theorem run (l x):aY X bd (.seq none .d (.seq (some nm1) (.seq none .d (.block (.loop nm2 .d))) .d)) nmR [4] [] [(.lst .span l),(.agg [(.int .i64 x.slo),(.int .i64 x.shi)])]=f0 l x:=T0 l x
theorem f0_eq (l:List Span) (x:Span) (h:(nle (List.length l) 90000)=true):f0 l x=cW (aZ (iw x) 0 l):=by
  have hl:=du h
  refine (gg l (by omega) (fun n_ (_:Unit) i_=>f2 n_ l (Int.ofNat l.length) i_ x) _ (fun _=>cW (-1)) (fun n_ u_ i_ hi_ => ?_) (fun n_ u_ => ?_) 100000 0 () (by omega) (by omega)).trans (dU (iw x) cW l 0)
  · show sh2 l (Int.ofNat l.length) i_ x f1 (f2 n_) = _
    unfold sh2
    rw [ci (by simp; omega),bD hi_,ar,az hi_]
    rfl
  · show sh2 l (Int.ofNat l.length) (l.length : Int) x f1 (f2 n_) = _
    unfold sh2
    rw [bZ (by simp)]
    rfl
theorem ok:CtxOk Tryz.prog X:=aW tab spN dpN
theorem okM:MOk Tryz.prog X:=fun g sp h=>by cases h
theorem spec (l:List Span) (x:Span) (h:(nle (List.length l) 90000)=true):aq Tryz.prog E 54 [(.lst .span l),(.agg [(.int .i64 x.slo),(.int .i64 x.shi)])] (.int .i64 (aZ (iw x) 0 l)) [] :=
  ap ok okM Tryz.call54 Tryz.func54 (by kernel_rfl) (by kernel_rfl) (by kernel_rfl) (by show 2≤19; decide) (by decide) (by rfl) ((run l x).trans (f0_eq l x h))
noncomputable def sp:Sp U El:=fun args k=>match args with
  | [.lst .span l,.agg [.int .i64 x_slo,.int .i64 x_shi]]=>chk (nle (List.length l) 90000) (k (.int .i64 (aZ (iw (⟨x_slo,x_shi⟩:Span)) 0 l)) [])
  | _=>none
theorem spOk:SpOk Tryz.prog E 54 sp where
  det:=fun vs=>by
    unfold sp
    split
    · exact bq _ _ _
    · exact ⟨none,fun _=>rfl⟩
  ok:=fun vs k r h=>by
    unfold sp at h
    split at h
    · obtain ⟨h1, h2⟩ := ab h
      exact ⟨_,_,spec _ ⟨_,_⟩ h1,h2⟩
    · cases h
end idxP
namespace hasP
noncomputable def bd:Code:=(Tryz.f18.body).getD .skip
noncomputable def X:Ctx U El:=⟨E,tds,zeros,eqs,aK [(54,idxP.sp)],100000,9,aC [],fun _=>none⟩
noncomputable def nmR:Norm U:=⟨[],[4],[],[],[],[],[]⟩
noncomputable def RR:ai U El:=fun st=>aN nmR st (aJ [4] [])
noncomputable def fr0 (l:List Span) (x:Span):St U El:=⟨[(0,(.lst .span l)),(1,(.agg [(.int .i64 x.slo),(.int .i64 x.shi)]))],[]⟩
noncomputable def sh0 (l:List Span) (x:Span):R :=
  chk (nle (List.length l) 90000) (some ((.bool (ile (0:Int) (aZ (iw x) 0 l))),[]))
theorem P0 (l x):al X (cdp [] bd) .d (fr0 l x) RR (fun _ _=>none) RR=sh0 l x:=by kernel_rfl
noncomputable def f0 (l:List Span) (x:Span):R:=sh0 l x
theorem T0 (l x):al X bd .d (fr0 l x) RR (fun _ _=>none) RR=f0 l x:=by
  refine (P0 l x).trans ?_
  show _=sh0 l x
  rfl
theorem run (l x):aY X bd .d nmR [4] [] [(.lst .span l),(.agg [(.int .i64 x.slo),(.int .i64 x.shi)])]=f0 l x:=T0 l x
theorem f0_eq (l:List Span) (x:Span) (h:(nle (List.length l) 90000)=true):f0 l x=bz (List.any l (iw x)):=by
  show sh0 l x=_
  unfold sh0
  rw [h,← dV (iw x) l 0]
  rfl
theorem ok:CtxOk Tryz.prog X:=aW tab (spC idxP.spOk spN) dpN
theorem okM:MOk Tryz.prog X:=fun g sp h=>by cases h
theorem spec (l:List Span) (x:Span) (h:(nle (List.length l) 90000)=true):aq Tryz.prog E 18 [(.lst .span l),(.agg [(.int .i64 x.slo),(.int .i64 x.shi)])] (.bool (List.any l (iw x))) [] :=
  ap ok okM Tryz.call18 Tryz.func18 (by kernel_rfl) (by kernel_rfl) (by kernel_rfl) (by show 2≤9; decide) (by decide) (by rfl) ((run l x).trans (f0_eq l x h))
noncomputable def sp:Sp U El:=fun args k=>match args with
  | [.lst .span l,.agg [.int .i64 x_slo,.int .i64 x_shi]]=>chk (nle (List.length l) 90000) (k (.bool (List.any l (iw (⟨x_slo,x_shi⟩:Span)))) [])
  | _=>none
theorem spOk:SpOk Tryz.prog E 18 sp where
  det:=fun vs=>by
    unfold sp
    split
    · exact bq _ _ _
    · exact ⟨none,fun _=>rfl⟩
  ok:=fun vs k r h=>by
    unfold sp at h
    split at h
    · obtain ⟨h1, h2⟩ := ab h
      exact ⟨_,_,spec _ ⟨_,_⟩ h1,h2⟩
    · cases h
end hasP
end Go.Proofs.YthdklallcljhlaaGreatDoor

namespace Go.Proofs.YthdklallcljhlaaGreatDoor
set_option linter.unusedSectionVars false
set_option linter.unusedVariables false
set_option linter.unusedSimpArgs false
open Go.Shelf Go.Lib Go.Sort
def splitLay_ren:Go.Shelf.Ren:=⟨fun | 138=>84 | 143=>85 | 146=>22 | 195=>118 | 197=>119 | 217=>121 | 218=>120 | 219=>86 | 221=>56 | 224=>123 | 225=>122 | 260=>142 | 266=>143 | 267=>124 | 268=>83 | 314=>144 | n=>n,fun | 0=>0 | 3=>3 | 4=>4 | 5=>5 | 9=>9 | 21=>21 | 31=>56 | 46=>109 | 51=>130 | 105=>143 | 119=>174 | 138=>176 | 139=>177 | 146=>161 | n=>n,fun | 1=>0 | 3=>2 | 4=>3 | 17=>1 | 18=>4 | 19=>5 | n=>n⟩
theorem qv:Go.Proofs.Lays.n146 Tryz.prog splitLay_ren:={
  mixed:=by kernel_rfl
  f138:=Tryz.func84.trans (congrArg some (by kernel_rfl))
  f143:=Tryz.func85.trans (congrArg some (by kernel_rfl))
  f146:=Tryz.func22.trans (congrArg some (by kernel_rfl))
  f195:=Tryz.func118.trans (congrArg some (by kernel_rfl))
  f197:=Tryz.func119.trans (congrArg some (by kernel_rfl))
  f217:=Tryz.func121.trans (congrArg some (by kernel_rfl))
  f218:=Tryz.func120.trans (congrArg some (by kernel_rfl))
  f219:=Tryz.func86.trans (congrArg some (by kernel_rfl))
  f221:=Tryz.func56.trans (congrArg some (by kernel_rfl))
  f224:=Tryz.func123.trans (congrArg some (by kernel_rfl))
  f225:=Tryz.func122.trans (congrArg some (by kernel_rfl))
  f260:=Tryz.func142.trans (congrArg some (by kernel_rfl))
  f266:=Tryz.func143.trans (congrArg some (by kernel_rfl))
  f267:=Tryz.func124.trans (congrArg some (by kernel_rfl))
  f268:=Tryz.func83.trans (congrArg some (by kernel_rfl))
  f314:=Tryz.func144.trans (congrArg some (by kernel_rfl))
  t0:=Tryz.underlying0
  a0:=Tryz.isAgg0
  z0:=Tryz.sizeOf0
  v0:=Tryz.zeroValue0
  t3:=Tryz.underlying3
  a3:=Tryz.isAgg3
  z3:=Tryz.sizeOf3
  v3:=Tryz.zeroValue3
  t4:=Tryz.underlying4
  a4:=Tryz.isAgg4
  z4:=Tryz.sizeOf4
  v4:=Tryz.zeroValue4
  t5:=Tryz.underlying5
  a5:=Tryz.isAgg5
  z5:=Tryz.sizeOf5
  v5:=Tryz.zeroValue5
  t9:=Tryz.underlying9
  a9:=Tryz.isAgg9
  z9:=Tryz.sizeOf9
  v9:=Tryz.zeroValue9
  t21:=Tryz.underlying21
  a21:=Tryz.isAgg21
  z21:=Tryz.sizeOf21
  v21:=Tryz.zeroValue21
  t31:=Tryz.underlying56
  a31:=Tryz.isAgg56
  z31:=Tryz.sizeOf56
  v31:=Tryz.zeroValue56
  t46:=Tryz.underlying109
  a46:=Tryz.isAgg109
  z46:=Tryz.sizeOf109
  v46:=Tryz.zeroValue109
  t51:=Tryz.underlying130
  a51:=Tryz.isAgg130
  z51:=Tryz.sizeOf130
  v51:=Tryz.zeroValue130
  t105:=Tryz.underlying143
  a105:=Tryz.isAgg143
  z105:=Tryz.sizeOf143
  v105:=Tryz.zeroValue143
  t119:=Tryz.underlying174
  a119:=Tryz.isAgg174
  z119:=Tryz.sizeOf174
  t138:=Tryz.underlying176
  a138:=Tryz.isAgg176
  z138:=Tryz.sizeOf176
  v138:=Tryz.zeroValue176
  t139:=Tryz.underlying177
  a139:=Tryz.isAgg177
  z139:=Tryz.sizeOf177
  v139:=Tryz.zeroValue177
  t146:=Tryz.underlying161
  a146:=Tryz.isAgg161
  z146:=Tryz.sizeOf161
  v146:=Tryz.zeroValue161
  g1:=by kernel_rfl
  g3:=by kernel_rfl
  g4:=by kernel_rfl
}
def cutLay_ren:Go.Shelf.Ren:=⟨fun | 145=>23 | 217=>121 | 219=>86 | 220=>57 | 224=>123 | 225=>122 | 266=>143 | 267=>124 | 314=>144 | n=>n,fun | 3=>3 | 4=>4 | 5=>5 | 9=>9 | 46=>109 | 51=>130 | 59=>58 | 146=>161 | n=>n,fun | 1=>0 | 3=>2 | 4=>3 | 17=>1 | 18=>4 | 19=>5 | n=>n⟩
theorem r5:Go.Proofs.Lays.n145 Tryz.prog cutLay_ren:={
  mixed:=by kernel_rfl
  f145:=Tryz.func23.trans (congrArg some (by kernel_rfl))
  f217:=Tryz.func121.trans (congrArg some (by kernel_rfl))
  f219:=Tryz.func86.trans (congrArg some (by kernel_rfl))
  f220:=Tryz.func57.trans (congrArg some (by kernel_rfl))
  f224:=Tryz.func123.trans (congrArg some (by kernel_rfl))
  f225:=Tryz.func122.trans (congrArg some (by kernel_rfl))
  f266:=Tryz.func143.trans (congrArg some (by kernel_rfl))
  f267:=Tryz.func124.trans (congrArg some (by kernel_rfl))
  f314:=Tryz.func144.trans (congrArg some (by kernel_rfl))
  t3:=Tryz.underlying3
  a3:=Tryz.isAgg3
  z3:=Tryz.sizeOf3
  v3:=Tryz.zeroValue3
  t4:=Tryz.underlying4
  a4:=Tryz.isAgg4
  z4:=Tryz.sizeOf4
  v4:=Tryz.zeroValue4
  t5:=Tryz.underlying5
  a5:=Tryz.isAgg5
  z5:=Tryz.sizeOf5
  v5:=Tryz.zeroValue5
  t9:=Tryz.underlying9
  a9:=Tryz.isAgg9
  z9:=Tryz.sizeOf9
  v9:=Tryz.zeroValue9
  t46:=Tryz.underlying109
  a46:=Tryz.isAgg109
  z46:=Tryz.sizeOf109
  v46:=Tryz.zeroValue109
  t51:=Tryz.underlying130
  a51:=Tryz.isAgg130
  z51:=Tryz.sizeOf130
  v51:=Tryz.zeroValue130
  t59:=Tryz.underlying58
  a59:=Tryz.isAgg58
  z59:=Tryz.sizeOf58
  v59:=Tryz.zeroValue58
  t146:=Tryz.underlying161
  a146:=Tryz.isAgg161
  z146:=Tryz.sizeOf161
  v146:=Tryz.zeroValue161
  g1:=by kernel_rfl
}
noncomputable def bT (s sep:List UInt8):List (List UInt8):=Lib.splitK sep 0 (Lib.countB ⟨s.toArray⟩ ⟨sep.toArray⟩) s
theorem pg (w:World) (cs:Array Value) (e:TypeId) (i:Nat) (v:Value) (h:cs[i]? = some v):(w.alloc (.cells cs e)).cell? ⟨w.heap.size,i,none⟩=some v:=by simp [World.cell?,World.alloc,-World.alloc_eq,h]
namespace split
noncomputable def sp:Sp U El:=fun args k=>match args with
  | [.str s,.str sep]=>chk (nle (List.length s) 100000&&nlt 0 (List.length sep)) (k (.lst .str (bT s sep)) [])
  | _=>none
theorem spec (s sep:List UInt8) (h0:s.length≤100000) (h1:0 < sep.length):aq Tryz.prog E 22 [.str s,.str sep] (.lst .str (bT s sep)) []:=by
  refine ⟨Tryz.call22,(fun id b h=>by cases h),fun S w vs hlt hG hr => ?_⟩
  obtain ⟨v1,v2,rfl,r1,r2⟩:=mt hr
  cases r1
  cases r2
  obtain ⟨m,hm⟩:=hG.2
  refine (Any.strings_Split qv (by kernel_rfl) (⟨s.toArray⟩:ByteArray) ⟨sep.toArray⟩ m w (by simp [ByteArray.size]; omega) hm (by simp [ByteArray.size]; omega)).mono ?_
  rintro e w' ⟨rfl,rfl⟩
  have hall:=Lib.splitB_all (⟨sep.toArray⟩:ByteArray) (by simp [ByteArray.size]; omega) 0 _ (⟨s.toArray⟩:ByteArray) rfl
  have hdat:=Lib.splitB_data (⟨sep.toArray⟩:ByteArray) 0 (Lib.countB ⟨s.toArray⟩ ⟨sep.toArray⟩) (⟨s.toArray⟩:ByteArray)
  have hsp:bT s sep=(Lib.splitB (⟨sep.toArray⟩:ByteArray) 0 (Lib.countB ⟨s.toArray⟩ ⟨sep.toArray⟩) (⟨s.toArray⟩:ByteArray)).map (·.data.toList):=hdat.symm
  generalize Lib.splitB (⟨sep.toArray⟩:ByteArray) 0 (Lib.countB ⟨s.toArray⟩ ⟨sep.toArray⟩) (⟨s.toArray⟩:ByteArray)=bs at hall hsp ⊢
  have hlen:(bT s sep).length=Lib.countB ⟨s.toArray⟩ ⟨sep.toArray⟩+1:=by rw [hsp,List.length_map,hall]
  have hkey:∀ (i:Nat) (x:List UInt8),(bT s sep)[i]? = some x→∃ hi:i < bs.length,x=bs[i].data.toList:=fun i x hx=>by
    have hi:i < bs.length:=by
      have:=(List.getElem?_eq_some_iff.1 hx).1
      rw [hsp,List.length_map] at this
      exact this
    refine ⟨hi,?_⟩
    rw [hsp,List.getElem?_map,List.getElem?_eq_getElem hi] at hx
    exact (Option.some.inj hx).symm
  rw [← hlen]
  refine ⟨_,fun b=>S b∨b=w.heap.size,fun _=>none,rfl,⟨⟨rfl,rfl,rfl,by simp,Nat.le_refl _,fun j hj _=>Go.RowKit.Below.heap_alloc w _ j hj⟩,fun _ h => .inl h,fun b hb=>hb.elim .inl fun e => .inr (by omega),fun _ _ h=>h,hlt⟩,HRel.nil (fun b hb => ?_) _,Rel.lst (E:=E) U.str (bT s sep) w.heap.size 0 _ (fun i _ => .string (bs.getD i ⟨#[]⟩)) (Or.inr rfl) (Nat.le_refl _) (fun i x j c hx hc => ?_) (fun i x j c hx hc => ?_)⟩
  · rcases hb with hb | rfl
    · have := hlt b hb
      simp
      omega
    · simp
  · have hj : j = 0 ∧ c = .str x := by
      match j,hc with
      | 0,hc=>cases hc; exact ⟨rfl,rfl⟩
      | j+1,hc=>simp [E] at hc
    obtain ⟨rfl,rfl⟩:=hj
    obtain ⟨hi,_⟩:=hkey i x hx
    show World.cell? _ ⟨w.heap.size,0+i * 1+0,none⟩=_
    rw [show 0+i * 1+0=i by omega]
    refine pg w _ _ i _ ?_
    rw [List.getElem?_toArray,List.getElem?_map,List.getElem?_eq_getElem hi,List.getD,List.getElem?_eq_getElem hi]
    rfl
  · have hj : j = 0 ∧ c = .str x := by
      match j,hc with
      | 0,hc=>cases hc; exact ⟨rfl,rfl⟩
      | j+1,hc=>simp [E] at hc
    obtain ⟨rfl,rfl⟩:=hj
    obtain ⟨hi,hx'⟩:=hkey i x hx
    have hg:bs.getD i ⟨#[]⟩=⟨x.toArray⟩:=by rw [hx',List.getD,List.getElem?_eq_getElem hi]; rfl
    show Rel E _ _ _ (.str x) (.string (bs.getD i ⟨#[]⟩))
    rw [hg]
    exact .str _
theorem spOk:SpOk Tryz.prog E 22 sp where
  det:=fun vs=>by
    unfold sp
    split
    · exact bq _ _ _
    · exact ⟨none,fun _=>rfl⟩
  ok:=fun vs k r h=>by
    unfold sp at h
    split at h
    · rename_i s sep
      obtain ⟨h1,h2⟩:=ab h
      simp only [Bool.and_eq_true] at h1
      exact ⟨_,_,spec s sep (du h1.1) (of_decide_eq_true h1.2),h2⟩
    · cases h
end split
namespace cutS
noncomputable def sp:Sp U El:=fun args k=>match args with
  | [.str s,.str sep]=>chk (nle (List.length s) 100000) (k (.tup [(.str (Lib.cut s sep).1),(.str (Lib.cut s sep).2.1),(.bool (Lib.cut s sep).2.2)]) [])
  | _=>none
theorem spec (s sep:List UInt8) (h0:s.length≤100000):aq Tryz.prog E 23 [.str s,.str sep] (.tup [(.str (Lib.cut s sep).1),(.str (Lib.cut s sep).2.1),(.bool (Lib.cut s sep).2.2)]) []:=by
  refine ⟨Tryz.call23,(fun id b h=>by cases h),fun S w vs hlt hG hr => ?_⟩
  obtain ⟨v1,v2,rfl,r1,r2⟩:=mt hr
  cases r1
  cases r2
  obtain ⟨m,hm⟩:=hG.2
  refine (Any.strings_Cut r5 (⟨s.toArray⟩:ByteArray) ⟨sep.toArray⟩ m w (by simp [ByteArray.size]; omega) hm).mono ?_
  rintro e w' ⟨rfl,n,rfl⟩
  refine ⟨_,S,_,rfl,⟨⟨rfl,rfl,rfl,Nat.le_refl _,Nat.le_add_right _ _,fun j hj _=>rfl⟩,fun _ h=>h,fun _ h => .inl h,fun _ _ h=>h,hlt⟩,HRel.nil (w:=w.drewN n) (fun b hb=>hlt b hb) _,.tup _ _ rfl fun i c v hc hv => ?_⟩
  match i,hc,hv with
  | 0,hc,hv=>cases hc; cases hv; exact .str _
  | 1,hc,hv=>cases hc; cases hv; exact .str _
  | 2,hc,hv=>cases hc; cases hv; exact .bool _
theorem spOk:SpOk Tryz.prog E 23 sp where
  det:=fun vs=>by
    unfold sp
    split
    · exact bq _ _ _
    · exact ⟨none,fun _=>rfl⟩
  ok:=fun vs k r h=>by
    unfold sp at h
    split at h
    · rename_i s sep
      obtain ⟨h1,h2⟩:=ab h
      exact ⟨_,_,spec s sep (du h1),h2⟩
    · cases h
end cutS
end Go.Proofs.YthdklallcljhlaaGreatDoor

namespace Go.Proofs.YthdklallcljhlaaGreatDoor
set_option linter.unusedSectionVars false
set_option linter.unusedSimpArgs false
set_option linter.unusedVariables false
set_option maxRecDepth 100000
theorem kq (a:UInt8) (sub r:List UInt8):∀ x:List UInt8,a ∉ x→Lib.index (x++(a :: sub++r)) (a :: sub)=(x.length:Int):=by
  intro x
  induction x with
  | nil =>
    intro _
    show Lib.index (a :: (sub++r)) (a :: sub)=0
    unfold Lib.index
    have:(a :: sub).isPrefixOf (a :: (sub++r))=true:=by
      rw [List.isPrefixOf_iff_prefix]
      exact ⟨r,rfl⟩
    rw [if_pos this]
  | cons b x ih =>
    intro h
    have hb:(a :: sub).isPrefixOf (b :: (x++(a :: sub++r)))=false:=by
      have:(a == b)=false:=beq_eq_false_iff_ne.2 fun e=>h (by rw [e]; exact List.mem_cons_self ..)
      simp only [List.isPrefixOf,this,Bool.false_and]
    show Lib.index (b :: (x++(a :: sub++r))) (a :: sub)=_
    unfold Lib.index
    rw [hb,ih fun e=>h (List.mem_cons_of_mem _ e)]
    have:(((x.length:Nat):Int) == -1)=false:=beq_eq_false_iff_ne.2 (by omega)
    rw [this]
    simp
theorem rp (a:UInt8) (sub r x:List UInt8) (h:a ∉ x):Lib.cut (x++(a :: sub++r)) (a :: sub)=(x,r,true):=by
  unfold Lib.cut
  rw [kq a sub r x h,if_pos (by omega),ar]
  refine Prod.ext ?_ (Prod.ext ?_ rfl)
  · simp
  · show List.drop (x.length + (a :: sub).length) (x ++ (a :: sub ++ r)) = r
    rw [← List.append_assoc,List.drop_append_of_le_length (by simp)]
    simp
theorem nD (c:UInt8):bT [] [c]=[[]]:=by
  show Lib.splitK [c] 0 (Lib.count [] [c]) []=_
  rw [Lib.count_miss (by rfl)]
  rfl
theorem mC (c:UInt8) (x r:List UInt8) (h:c ∉ x):bT (x++(c :: r)) [c]=x :: bT r [c]:=by
  show Lib.splitK [c] 0 (Lib.count (x++(c :: r)) [c]) (x++(c :: r))=x :: Lib.splitK [c] 0 (Lib.count r [c]) r
  have hi:Lib.index (x++(c :: r)) [c]=(x.length:Int):=kq c [] r x h
  have hd:List.drop (x.length+([c]:List UInt8).length) (x++(c :: r))=r:=by
    rw [show x++(c :: r)=(x++[c])++r by simp,List.drop_append_of_le_length (by simp)]
    simp
  rw [Lib.count_hit (by simp) hi,hd,Nat.add_comm]
  simp only [Lib.splitK]
  rw [hi,ar,hd]
  have:(((x.length:Nat):Int) == -1)=false:=beq_eq_false_iff_ne.2 (by omega)
  rw [this]
  simp
theorem qw:∀ {s:List UInt8},hJ s=s.length→∀ b∈s,mg b=true:=by
  intro s
  induction s with
  | nil=>intro _ b hb; cases hb
  | cons x s ih =>
    intro h b hb
    cases hx:mg x with
    | false=>simp [hJ,hx] at h
    | true =>
      simp only [hJ,hx,cond_true,List.length_cons] at h
      rcases List.mem_cons.1 hb with rfl | hb
      · exact hx
      · exact ih (by omega) b hb
theorem ou {s:List UInt8} (h:bI s=true):(32:UInt8) ∉ s∧(10:UInt8) ∉ s:=by
  simp only [bI,Bool.and_eq_true] at h
  have:=qw (s:=s) (Int.ofNat.inj (beq_iff_eq.1 h.2.2.2))
  refine ⟨fun hm => ?_,fun hm => ?_⟩
  · have:=this _ hm; revert this; decide
  · have:=this _ hm; revert this; decide
theorem kr (u:Nat):(10:UInt8) ∉ Lib.decDigits u:=by
  rw [Lib.decDigits_eq]
  intro h
  obtain ⟨t,_,ht⟩:=List.mem_map.1 h
  have h1:Lib.dg u (Lib.nDigits u - 1 - t)=UInt8.ofNat (48+u / 10 ^ (Lib.nDigits u - 1 - t)%10):=rfl
  rw [h1] at ht
  have h2:u / 10 ^ (Lib.nDigits u - 1 - t)%10 < 10:=Nat.mod_lt _ (by omega)
  generalize u / 10 ^ (Lib.nDigits u - 1 - t)%10=q at ht h2
  have:=congrArg UInt8.toNat ht
  simp only [UInt8.toNat_ofNat'] at this
  have h10:UInt8.toNat 10=10:=rfl
  omega
theorem la (n:Int):(10:UInt8) ∉ Lib.itoa n:=by
  unfold Lib.itoa
  split
  · intro h
    rcases List.mem_cons.1 h with h | h
    · cases h
    · exact kr _ h
  · exact kr _
noncomputable def bJ (l:List Work) (s:Slot):List UInt8:=(List.getD l (Int.toNat s.sw) ac).wn++(([32,99,114,101,119,32]:List UInt8)++(Lib.itoa s.sc++(([32,102,114,111,109,32]:List UInt8)++(Lib.itoa s.ss++(([32,116,111,32]:List UInt8)++Lib.itoa (bh l s))))))
theorem kt (l:List Work) (s:Slot):jF l s=bJ l s++[10]:=by
  unfold jF bJ
  simp only [List.append_assoc]
theorem rq {l:List Work} {s:Slot} (h:bI (List.getD l (Int.toNat s.sw) ac).wn=true):(10:UInt8) ∉ bJ l s:=by
  unfold bJ
  simp only [List.mem_append,not_or]
  exact ⟨(ou h).2,by decide,la _,by decide,la _,by decide,la _⟩
theorem mD (l:List Work):∀ S:List Slot,(∀ s∈S,bI (List.getD l (Int.toNat s.sw) ac).wn=true)→bT (cR l S) [10]=S.map (bJ l)++[[]]:=by
  intro S
  induction S with
  | nil=>intro _; exact nD 10
  | cons s S ih =>
    intro h
    rw [fP,kt,List.append_assoc,List.singleton_append,mC 10 _ _ (rq (h s (by simp))),ih fun x hx=>h x (by simp [hx])]
    rfl
theorem qx {l:List Work} {s:Slot} (h:bI (List.getD l (Int.toNat s.sw) ac).wn=true):(Lib.cut (bJ l s) [32,99,114,101,119,32]).1=(List.getD l (Int.toNat s.sw) ac).wn∧(Lib.cut (bJ l s) [32,99,114,101,119,32]).2.2=true:=by
  unfold bJ
  have:=rp 32 [99,114,101,119,32] (Lib.itoa s.sc++(([32,102,114,111,109,32]:List UInt8)++(Lib.itoa s.ss++(([32,116,111,32]:List UInt8)++Lib.itoa (bh l s))))) _ (ou h).1
  refine ⟨congrArg Prod.fst this,congrArg (fun q=>q.2.2) this⟩
theorem sL {n crews:Int} {dup:Bool} {w:Work} (h:wk n crews dup w=true):bI w.wn=true∧dup=false:=by
  simp only [wk,Bool.and_eq_true] at h
  exact ⟨h.1,by simpa using h.2.1⟩
theorem qy {n crews:Int}:∀ {l seen:List Work},cm n crews seen l=true→(∀ w∈l,bI w.wn=true∧∀ y∈seen,y.wn≠w.wn)∧l.Pairwise (fun a b=>a.wn≠b.wn):=by
  intro l
  induction l with
  | nil=>intro seen _; exact ⟨fun w hw=>absurd hw (by simp),List.Pairwise.nil⟩
  | cons x l ih =>
    intro seen h
    simp only [cm,Bool.and_eq_true] at h
    obtain ⟨h1,h2⟩:=sL h.1
    obtain ⟨i1,i2⟩:=ih h.2
    refine ⟨fun w hw => ?_,List.pairwise_cons.2 ⟨fun w hw=>(i1 w hw).2 x (by simp),i2⟩⟩
    rcases List.mem_cons.1 hw with rfl | hw
    · refine ⟨h1, fun y hy e => ?_⟩
      have:=List.any_eq_false.1 h2 y hy
      simp [e] at this
    · exact ⟨(i1 w hw).1,fun y hy=>(i1 w hw).2 y (by simp [hy])⟩
theorem rt {l:List Work} (hp:l.Pairwise (fun a b=>a.wn≠b.wn)):∀ (k:Nat) (b:Nat) (hk:k < l.length),aZ (dX l[k].wn) b l=((b+k:Nat):Int):=by
  induction l with
  | nil=>intro k b hk; simp at hk
  | cons x l ih =>
    intro k b hk
    obtain ⟨h1,h2⟩:=List.pairwise_cons.1 hp
    cases k with
    | zero =>
      have:dX x.wn x=true:=beq_self_eq_true x.wn
      show (bif dX x.wn x then (b:Int) else aZ (dX x.wn) (b+1) l)=_
      rw [this]; rfl
    | succ k =>
      have hk':k < l.length:=by simpa using hk
      have:dX l[k].wn x=false:=beq_eq_false_iff_ne.2 (h1 _ (List.getElem_mem hk'))
      show (bif dX l[k].wn x then (b:Int) else aZ (dX l[k].wn) (b+1) l)=_
      rw [this,cond_false,ih h2 k (b+1) hk']
      congr 1
      omega
theorem sM (a b c d e f:Bool):(bif a then (25:Int) else bif b then 11 else bif c then 2 else bif d then 17 else bif e then 10 else bif f then 15 else 0)=0→f=false:=by
  cases a<;>cases b<;>cases c<;>cases d<;>cases e<;>cases f<;>simp
theorem ld {l:List Work} {p:List Slot} (h:aL l 12 p=0) (hG:GP l p) {i k:Nat} (hi:i < l.length) (hk:k < l.length) (hik:k≠i) (hs:(List.getD l i ac).ws≠[]) (hc:(List.getD l k ac).ws=(List.getD l i ac).ws) :
    bh l (List.getD p i ae)≤(List.getD p k ae).ss∨bh l (List.getD p k ae)≤(List.getD p i ae).ss:=by
  have hf:=(gl h).2.2 i hi
  have hcr:eU l p i k=false:=by
    unfold en at hf
    have h5:dI (eU l p i) l.length 0=false:=sM _ _ _ _ _ _ hf
    exact oq _ _ h5 k (by omega) (by omega)
  have gi:=hG.sl _ (show List.getD p i ae∈p by rw [az (by rw [hG.lp]; exact hi)]; exact List.getElem_mem _)
  have gk:=hG.sl _ (show List.getD p k ae∈p by rw [az (by rw [hG.lp]; exact hk)]; exact List.getElem_mem _)
  have ei:=gi.e; have ek:=gk.e
  rw [hG.ix i hi,ar] at ei
  rw [hG.ix k hk,ar] at ek
  unfold eU mj at hcr
  rw [show (!((List.getD l i ac).ws == ([]:List UInt8)))=true by simpa using hs,show ((List.getD l k ac).ws == (List.getD l i ac).ws)=true from beq_iff_eq.2 hc,Bool.and_true,Bool.and_true] at hcr
  rw [ei,ek]
  by_cases h1:(List.getD p i ae).ss+(List.getD l i ac).wh≤(List.getD p k ae).ss
  · exact .inl h1
  · by_cases h2 : (List.getD p k ae).ss + (List.getD l k ac).wh ≤ (List.getD p i ae).ss
    · exact .inr h2
    · exfalso
      have h3:((k:Int) == (i:Int))=false:=beq_eq_false_iff_ne.2 fun e=>hik (Int.ofNat.inj e)
      rw [kV (by omega),kV (by omega),h3] at hcr
      cases hcr
def qz (l:List Work) (st:List UInt8) (a b:Slot):Prop:=dJ l st a=true→dJ l st b=true→bh l a≤b.ss∨bh l b≤a.ss
theorem ov {l:List Work} {st:List UInt8} {s:Slot} (h:dJ l st s=true):st≠[]∧(List.getD l (Int.toNat s.sw) ac).ws=st:=by
  unfold dJ at h
  simp only [Bool.and_eq_true] at h
  exact ⟨by simpa using h.1,beq_iff_eq.1 h.2⟩
theorem nF {l:List Work} {p:List Slot} (st:List UInt8) (h:aL l 12 p=0) (hG:GP l p):p.Pairwise (qz l st):=by
  rw [List.pairwise_iff_getElem]
  intro i j hi hj hij ha hb
  have hlp:=hG.lp
  obtain ⟨a1,a2⟩:=ov ha
  obtain ⟨b1,b2⟩:=ov hb
  have x1:=hG.ix i (by omega); have x2:=hG.ix j (by omega)
  rw [az hi] at x1
  rw [az hj] at x2
  rw [x1,ar] at a2
  rw [x2,ar] at b2
  have:=ld h hG (i:=i) (k:=j) (by omega) (by omega) (by omega) (by rw [a2]; exact a1) (by rw [a2,b2])
  rw [az hi,az hj] at this
  exact this
theorem nG {l:List Work} {p:List Slot} (st:List UInt8) (h:aL l 12 p=0) (hG:GP l p):(aX l p st).Pairwise (fun a b=>a.shi≤b.slo):=by
  have e:aX l p st=((byL p).filter (dJ l st)).map (spT l):=rfl
  rw [e,List.pairwise_map]
  have hasc:(byL p).Pairwise fun a b=>ltS b a=false:=ju mB p
  have hap:(byL p).Pairwise (qz l st):=((bW p).pairwise_iff (fun {x y} hxy ha hb=>(hxy hb ha).symm)).2 (nF st h hG)
  refine ((hasc.and hap).filter (dJ l st)).imp_of_mem fun {a b} ha hb hab => ?_
  obtain ⟨m1,m2⟩:=List.mem_filter.1 ha
  obtain ⟨n1,n2⟩:=List.mem_filter.1 hb
  have ea:=hG.sl a (byL_mem.1 m1); have eb:=hG.sl b (byL_mem.1 n1)
  have g1:=jX hab.1
  show bh l a≤b.ss
  have a1:=ea.e; have a2:=ea.wh; have b1:=eb.e; have b2:=eb.wh
  rcases hab.2 m2 n2 with g | g
  · exact g
  · omega
theorem nH (l : List Work) (h : Int) (h1 : 1 ≤ h) (h2 : h ≤ 1000) : ∀ (S : List Slot) (t : Int), (∀ s ∈ S, GS l s ∧ t ≤ s.ss) → 0 ≤ t → t ≤ 2000000 → S.Pairwise (fun a b => a.ss ≤ b.ss ∧ bh l a ≤ b.ss) →
    (t≤bX l h S t∧bX l h S t≤2000000)∧(∀ s∈S,bh l s≤bX l h S t∨bX l h S t+h≤s.ss)∧(bX l h S t=t∨(∃ s∈S,s.ss < t+h)∧∃ s∈S,bh l s=bX l h S t):=by
  intro S
  induction S with
  | nil=>intro t _ h0 h9 _; exact ⟨⟨Int.le_refl _,h9⟩,fun s hs=>by (cases hs),.inl rfl⟩
  | cons s S ih =>
    intro t hs ht0 ht9 hp
    obtain ⟨hg,hts⟩:=hs s (by simp)
    obtain ⟨hp1,hp2⟩:=List.pairwise_cons.1 hp
    have g1:=hg.ss; have g2:=hg.wh; have g3:=hg.e
    have hw:IntKind.wrap .i64 (t+h)=t+h:=dD (by omega) (by omega)
    have hE:bX l h (s :: S) t=bif ile (IntKind.wrap .i64 (t+h)) s.ss then t else bX l h S (bh l s):=rfl
    rw [hE,hw]
    by_cases hb:t+h≤s.ss
    · rw [ez hb, cond_true]
      refine ⟨⟨Int.le_refl _,ht9⟩,fun x hx => ?_,.inl rfl⟩
      rcases List.mem_cons.1 hx with rfl | hx
      · exact .inr hb
      · have := (hp1 x hx).1
        exact .inr (by omega)
    · rw [kV hb, cond_false]
      obtain ⟨⟨i1,i2⟩,i3,i4⟩:=ih (bh l s) (fun x hx=>⟨(hs x (by simp [hx])).1,(hp1 x hx).2⟩) (by omega) (by omega) hp2
      refine ⟨⟨by omega,i2⟩,fun x hx => ?_,.inr ⟨⟨s,by simp,by omega⟩,?_⟩⟩
      · rcases List.mem_cons.1 hx with rfl | hx
        · exact .inl i1
        · exact i3 x hx
      · rcases i4 with i4 | ⟨_, x, hx, hx'⟩
        · exact ⟨s,by simp,i4.symm⟩
        · exact ⟨x,by simp [hx],hx'⟩
theorem qB {l:List Work} {p:List Slot} {c h:Int} (h0:aL l 12 p=0) (hG:GP l p) (h1:1≤h) (h2:h≤1000) :
    (0≤bX l h (bK (p.filter (bg c))) 0∧bX l h (bK (p.filter (bg c))) 0≤2000000)∧(∀ s∈p,s.sc=c→bh l s≤bX l h (bK (p.filter (bg c))) 0∨bX l h (bK (p.filter (bg c))) 0+h≤s.ss)∧(bX l h (bK (p.filter (bg c))) 0=0∨(∃ s∈p,s.sc=c∧s.ss < h)∧∃ s∈p,s.sc=c∧bh l s=bX l h (bK (p.filter (bg c))) 0):=by
  have hE:bK (p.filter (bg c))=(byL p).filter (bg c):=by rw [jz,hQ mB]; rfl
  rw [hE]
  have hasc:(byL p).Pairwise fun a b=>ltS b a=false:=ju mB p
  have hap:(byL p).Pairwise (rE l):=((bW p).pairwise_iff (fun {x y} hxy hc=>(hxy hc.symm).symm)).2 (pf h0 hG)
  have hP:=(hasc.and hap).filter (bg c)
  have hm:∀ s∈(byL p).filter (bg c),s∈p∧GS l s∧s.sc=c:=fun s hs=>by
    obtain ⟨g1,g2⟩:=List.mem_filter.1 hs
    exact ⟨byL_mem.1 g1,hG.sl s (byL_mem.1 g1),beq_iff_eq.1 g2⟩
  obtain ⟨f1,f2,f3⟩:=nH l h h1 h2 ((byL p).filter (bg c)) 0 (fun s hs=>⟨(hm s hs).2.1,(hm s hs).2.1.ss.1⟩) (by omega) (by omega) (hP.imp_of_mem fun {a b} ha hb hab=>by
    obtain ⟨g1,g2⟩:=hab
    have g1:=jX g1
    have ea:=(hm a ha).2.1; have eb:=(hm b hb).2.1
    have a1:=ea.e; have a2:=ea.wh; have b1:=eb.e; have b2:=eb.wh
    refine ⟨by omega,?_⟩
    rcases g2 ((hm a ha).2.2.trans (hm b hb).2.2.symm) with g | g
    · exact g
    · omega)
  refine ⟨f1,fun s hs hc=>f2 s (List.mem_filter.2 ⟨byL_mem.2 hs,beq_iff_eq.2 hc⟩),?_⟩
  rcases f3 with f3 | ⟨⟨s,hs,hs'⟩,x,hx,hx'⟩
  · exact .inl f3
  · exact .inr ⟨⟨s,(hm s hs).1,(hm s hs).2.2,by omega⟩,x,(hm x hx).1,(hm x hx).2.2,hx'⟩
end Go.Proofs.YthdklallcljhlaaGreatDoor
