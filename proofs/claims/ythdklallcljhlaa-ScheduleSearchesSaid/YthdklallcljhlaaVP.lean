/- Drafts: which work is ready, the fault among the placed ones. -/
import Derived.Test.YthdklallcljhlaaVM
import Derived.Test.YthdklallcljhlaaSI
namespace Go.Proofs.Ythdklallcljhlaa
set_option linter.unusedSectionVars false
set_option linter.unusedSimpArgs false
set_option linter.unusedVariables false
set_option maxRecDepth 100000
noncomputable def bx (l:List Work) (dn:List Bool) (i:Int):Bool := !(List.getD dn (Int.toNat i) d_bool) && !(List.any (List.getD l (Int.toNat i) aa).wa (aW dn))
noncomputable def okR (l:List Work) (dn:List Bool) (i:Int):Bool:=inb i l.length&&(Nat.beq dn.length l.length&&okO l)
namespace rd1
noncomputable def bd:Code:=(Try.f72.body).getD .skip
noncomputable def X:Ctx U El:=⟨E,tds,zeros,eqs,aG [],100000,12,aD [],fun _=>none⟩
noncomputable def nmR:Norm U:=⟨[],[3],[],[],[],[],[]⟩
noncomputable def RR:ae U El:=fun st=>aM nmR st (aK [3] [])
noncomputable def fr0 (a:Int) (lw:List Work) (sl:List Slot) (dn:List Bool):St U El:=⟨[(0,(.int .i64 a)),(1,(.pcs [(.pcs [(.lst .work lw),(.lst .slot sl),(.lst .bool dn)] 0)] 0))],[]⟩
noncomputable def sh0 (a:Int) (lw:List Work) (sl:List Slot) (dn:List Bool):R :=
  chk (inb a (List.length dn)) (some ((.bool (!(List.getD dn (Int.toNat a) d_bool))),[]))
theorem P0 (a lw sl dn):ak X (cdp [] bd) .d (fr0 a lw sl dn) RR (fun _ _=>none) RR=sh0 a lw sl dn:=by kernel_rfl
noncomputable def f0 (a:Int) (lw:List Work) (sl:List Slot) (dn:List Bool):R:=sh0 a lw sl dn
theorem T0 (a lw sl dn):ak X bd .d (fr0 a lw sl dn) RR (fun _ _=>none) RR=f0 a lw sl dn:=by
  refine (P0 a lw sl dn).trans ?_
  show _=sh0 a lw sl dn
  rfl
theorem run (a lw sl dn):bg X bd .d nmR [3] [] [(.int .i64 a),(.pcs [(.pcs [(.lst .work lw),(.lst .slot sl),(.lst .bool dn)] 0)] 0)]=f0 a lw sl dn:=T0 a lw sl dn
theorem f0_eq (a:Int) (lw:List Work) (sl:List Slot) (dn:List Bool) (h:inb a (List.length dn)=true):f0 a lw sl dn=bm (aW dn a):=by
  show sh0 a lw sl dn=_
  unfold sh0
  rw [h]
  rfl
theorem ok:CtxOk Try.prog X:=aU tab spN dpN
theorem okM:MOk Try.prog X:=fun g sp h=>by cases h
theorem spec (a:Int) (lw:List Work) (sl:List Slot) (dn:List Bool) (h:(inb a (List.length dn))=true):az Try.prog E 72 [(.int .i64 a),(.pcs [(.pcs [(.lst .work lw),(.lst .slot sl),(.lst .bool dn)] 0)] 0)] (.bool (aW dn a)) [] :=
  aq ok okM Try.call72 Try.func72 (by kernel_rfl) (by kernel_rfl) (by kernel_rfl) (by show 2≤12; decide) (by decide) (by rfl) ((run a lw sl dn).trans (f0_eq a lw sl dn h))
noncomputable def sp:Sp U El:=fun args k=>match args with
  | [.int .i64 a,.pcs [.pcs [.lst .work lw,.lst .slot sl,.lst .bool dn] 0] 0]=>chk (inb a (List.length dn)) (k (.bool (aW dn a)) [])
  | _=>none
theorem spOk:SpOk Try.prog E 72 sp where
  det:=fun vs=>by
    unfold sp
    split
    · exact bz _ _ _
    · exact ⟨none,fun _=>rfl⟩
  ok:=fun vs k r h=>by
    unfold sp at h
    split at h
    · obtain ⟨h1, h2⟩ := ab h
      exact ⟨_,_,spec _ _ _ _ h1,h2⟩
    · cases h
end rd1
namespace rdX
noncomputable def bd:Code:=(Try.f80.body).getD .skip
noncomputable def X:Ctx U El:=⟨E,tds,zeros,eqs,aG [(72,rd1.sp)],100000,19,aD [],fun _=>none⟩
noncomputable def nmR:Norm U:=⟨[],[4],[],[],[],[],[]⟩
noncomputable def RR:ae U El:=fun st=>aM nmR st (aK [4] [])
noncomputable def nm1:Norm U:=⟨[],[],[],[],[],[],[]⟩
noncomputable def nm2:Norm U:=⟨[],[0,1,7,8],[],[],[],[],[]⟩
abbrev Y1:=R
abbrev Y2:=(List Int)→(List Work)→(List Slot)→(List Bool)→Int→Int→R
noncomputable def fr0 (l:List Int) (lw:List Work) (sl:List Slot) (dn:List Bool):St U El:=⟨[(0,(.lst .int l)),(1,(.fn 72 [] [(.pcs [(.pcs [(.lst .work lw),(.lst .slot sl),(.lst .bool dn)] 0)] 0)]))],[]⟩
noncomputable def fr1:St U El:=⟨[],[]⟩
noncomputable def fr2 (s0:List Int) (f1c_0_0:List Work) (f1c_0_1:List Slot) (f1c_0_2:List Bool) (x7:Int) (x8:Int):St U El:=⟨[(0,(.lst .int s0)),(1,(.fn 72 [] [(.pcs [(.pcs [(.lst .work f1c_0_0),(.lst .slot f1c_0_1),(.lst .bool f1c_0_2)] 0)] 0)])),(7,(.int .i64 x7)),(8,(.int .i64 x8))],[]⟩
noncomputable def sh0 (l:List Int) (lw:List Work) (sl:List Slot) (dn:List Bool) (k2:Y2):R :=
  k2 l lw sl dn (Int.ofNat (List.length l)) (0:Int)
noncomputable def sh1:R :=
  some ((.int .i64 (-1:Int)),[])
noncomputable def sh2 (s0:List Int) (f1c_0_0:List Work) (f1c_0_1:List Slot) (f1c_0_2:List Bool) (x7:Int) (x8:Int) (k1:Y1) (k2:Y2):R :=
  ah (ilt x8 x7) (chk (inb x8 (List.length s0)) (chk (inb (List.getD s0 (Int.toNat x8) d_int) (List.length f1c_0_2)) (ah (aW f1c_0_2 (List.getD s0 (Int.toNat x8) d_int)) (some ((.int .i64 x8),[])) (k2 s0 f1c_0_0 f1c_0_1 f1c_0_2 x7 (IntKind.wrap .i64 (x8+(1:Int))))))) (k1)
noncomputable def it2 (Kb1:ae U El) (n:Nat):ae U El:=bL nm2 (fun st' K'=>ak X (cdp [1,0,1,0,0] bd) .d st' K' (aw 0 (ap nm1 Kb1) (fun _ _=>none)) RR) n
noncomputable def ct1:ae U El:=fun st=>ak X (cdp [1,1] bd) .d st RR (fun _ _=>none) RR
theorem P0 (l lw sl dn):ak X (cdp [] bd) (.seq none .d (.seq (some nm1) (.seq none .d (.block (.loop nm2 .d))) .d)) (fr0 l lw sl dn) RR (fun _ _=>none) RR=sh0 l lw sl dn (fun y0 y1 y2 y3 y4 y5=>(hid (it2 (hid ct1) 100000)) (fr2 y0 y1 y2 y3 y4 y5)):=by kernel_rfl
theorem P1:ct1 (fr1)=sh1:=by kernel_rfl
theorem P2 (s0 f1c_0_0 f1c_0_1 f1c_0_2 x7 x8) (Kb1 Kb2:ae U El):ak X (cdp [1,0,1,0,0] bd) .d (fr2 s0 f1c_0_0 f1c_0_1 f1c_0_2 x7 x8) (ap nm2 Kb2) (aw 0 (ap nm1 Kb1) (fun _ _=>none)) RR=sh2 s0 f1c_0_0 f1c_0_1 f1c_0_2 x7 x8 (Kb1 (fr1)) (fun y0 y1 y2 y3 y4 y5=>Kb2 (fr2 y0 y1 y2 y3 y4 y5)):=by kernel_rfl
noncomputable def f1:R:=sh1
noncomputable def f2:Nat→Y2
  | 0=>fun _ _ _ _ _ _=>none
  | n+1=>fun s0 f1c_0_0 f1c_0_1 f1c_0_2 x7 x8=>sh2 s0 f1c_0_0 f1c_0_1 f1c_0_2 x7 x8 f1 (f2 n)
noncomputable def f0 (l:List Int) (lw:List Work) (sl:List Slot) (dn:List Bool):R:=sh0 l lw sl dn (f2 100000)
theorem T1:(hid ct1) (fr1)=f1:=by
  refine (congrFun (am _) _).trans <| (P1).trans ?_
  show _=sh1
  rfl
theorem T2:∀ (n:Nat),∀ s0 f1c_0_0 f1c_0_1 f1c_0_2 x7 x8,it2 (hid ct1) n (fr2 s0 f1c_0_0 f1c_0_1 f1c_0_2 x7 x8)=f2 n s0 f1c_0_0 f1c_0_1 f1c_0_2 x7 x8:=by
  intro n
  induction n with
  | zero=>intros; rfl
  | succ n ih =>
    intro s0 f1c_0_0 f1c_0_1 f1c_0_2 x7 x8
    refine (P2 s0 f1c_0_0 f1c_0_1 f1c_0_2 x7 x8 (hid ct1) (it2 (hid ct1) n)).trans ?_
    show _=sh2 s0 f1c_0_0 f1c_0_1 f1c_0_2 x7 x8 f1 (f2 n)
    simp only [T1,ih]
theorem H2 (s0 f1c_0_0 f1c_0_1 f1c_0_2 x7 x8):hid (it2 (hid ct1) 100000) (fr2 s0 f1c_0_0 f1c_0_1 f1c_0_2 x7 x8)=f2 100000 s0 f1c_0_0 f1c_0_1 f1c_0_2 x7 x8:=(congrFun (am _) _).trans (T2 100000 s0 f1c_0_0 f1c_0_1 f1c_0_2 x7 x8)
theorem T0 (l lw sl dn):ak X bd (.seq none .d (.seq (some nm1) (.seq none .d (.block (.loop nm2 .d))) .d)) (fr0 l lw sl dn) RR (fun _ _=>none) RR=f0 l lw sl dn:=by
  refine (P0 l lw sl dn).trans ?_
  show _=sh0 l lw sl dn (f2 100000)
  simp only [H2]
theorem run (l lw sl dn):bg X bd (.seq none .d (.seq (some nm1) (.seq none .d (.block (.loop nm2 .d))) .d)) nmR [4] [] [(.lst .int l),(.fn 72 [] [(.pcs [(.pcs [(.lst .work lw),(.lst .slot sl),(.lst .bool dn)] 0)] 0)])]=f0 l lw sl dn:=T0 l lw sl dn
theorem loop (l:List Int) (lw:List Work) (sl:List Slot) (dn:List Bool) (hl:l.length≤90000) (hd:∀ a∈l,inb a dn.length=true):∀ (n i:Nat),l.length < n+i→i≤l.length→f2 n l lw sl dn (Int.ofNat l.length) (i:Int)=dK (bW (aW dn) i (l.drop i)):=by
  intro n
  induction n with
  | zero=>intro i h1 h2; omega
  | succ n ih =>
    intro i h1 h2
    show sh2 l lw sl dn (Int.ofNat l.length) (i:Int) f1 (f2 n)=_
    unfold sh2
    by_cases hi:i < l.length
    · rw [bw (by simp; omega), aZ hi, ac, al hi, hd _ (List.getElem_mem hi), bo i (by omega), ih (i + 1) (by omega) hi, bl hi]
      simp only [bW]
      cases aW dn l[i]<;>rfl
    · have : i = l.length := by omega
      subst this
      rw [bp (by simp),List.drop_length]
      rfl
theorem f0_eq (l:List Int) (lw:List Work) (sl:List Slot) (dn:List Bool) (h:(nle (List.length l) 90000&&List.all l (fun a=>inb a (List.length dn)))=true):f0 l lw sl dn=dK (bW (aW dn) 0 l):=by
  simp only [Bool.and_eq_true] at h
  exact loop l lw sl dn (cn h.1) (List.all_eq_true.1 h.2) 100000 0 (by have:=cn h.1; omega) (by omega)
theorem ok:CtxOk Try.prog X:=aU tab (spC rd1.spOk spN) dpN
theorem okM:MOk Try.prog X:=fun g sp h=>by cases h
theorem spec (l:List Int) (lw:List Work) (sl:List Slot) (dn:List Bool) (h:((nle (List.length l) 90000&&List.all l (fun a=>inb a (List.length dn))))=true):az Try.prog E 80 [(.lst .int l),(.fn 72 [] [(.pcs [(.pcs [(.lst .work lw),(.lst .slot sl),(.lst .bool dn)] 0)] 0)])] (.int .i64 (bW (aW dn) 0 l)) [] :=
  aq ok okM Try.call80 Try.func80 (by kernel_rfl) (by kernel_rfl) (by kernel_rfl) (by show 2≤19; decide) (by decide) (by rfl) ((run l lw sl dn).trans (f0_eq l lw sl dn h))
noncomputable def sp:Sp U El:=fun args k=>match args with
  | [.lst .int l,.fn 72 [] [.pcs [.pcs [.lst .work lw,.lst .slot sl,.lst .bool dn] 0] 0]]=>chk ((nle (List.length l) 90000&&List.all l (fun a=>inb a (List.length dn)))) (k (.int .i64 (bW (aW dn) 0 l)) [])
  | _=>none
theorem spOk:SpOk Try.prog E 80 sp where
  det:=fun vs=>by
    unfold sp
    split
    · exact bz _ _ _
    · exact ⟨none,fun _=>rfl⟩
  ok:=fun vs k r h=>by
    unfold sp at h
    split at h
    · obtain ⟨h1, h2⟩ := ab h
      exact ⟨_,_,spec _ _ _ _ h1,h2⟩
    · cases h
end rdX
namespace rdC
noncomputable def bd:Code:=(Try.f68.body).getD .skip
noncomputable def X:Ctx U El:=⟨E,tds,zeros,eqs,aG [(80,rdX.sp)],100000,9,aD [],fun _=>none⟩
noncomputable def nmR:Norm U:=⟨[],[4],[],[],[],[],[]⟩
noncomputable def RR:ae U El:=fun st=>aM nmR st (aK [4] [])
noncomputable def fr0 (l:List Int) (lw:List Work) (sl:List Slot) (dn:List Bool):St U El:=⟨[(0,(.lst .int l)),(1,(.fn 72 [] [(.pcs [(.pcs [(.lst .work lw),(.lst .slot sl),(.lst .bool dn)] 0)] 0)]))],[]⟩
noncomputable def sh0 (l:List Int) (lw:List Work) (sl:List Slot) (dn:List Bool):R :=
  chk ((nle (List.length l) 90000&&List.all l (fun a=>inb a (List.length dn)))) (some ((.bool (ile (0:Int) (bW (aW dn) 0 l))),[]))
theorem P0 (l lw sl dn):ak X (cdp [] bd) .d (fr0 l lw sl dn) RR (fun _ _=>none) RR=sh0 l lw sl dn:=by kernel_rfl
noncomputable def f0 (l:List Int) (lw:List Work) (sl:List Slot) (dn:List Bool):R:=sh0 l lw sl dn
theorem T0 (l lw sl dn):ak X bd .d (fr0 l lw sl dn) RR (fun _ _=>none) RR=f0 l lw sl dn:=by
  refine (P0 l lw sl dn).trans ?_
  show _=sh0 l lw sl dn
  rfl
theorem run (l lw sl dn):bg X bd .d nmR [4] [] [(.lst .int l),(.fn 72 [] [(.pcs [(.pcs [(.lst .work lw),(.lst .slot sl),(.lst .bool dn)] 0)] 0)])]=f0 l lw sl dn:=T0 l lw sl dn
theorem f0_eq (l:List Int) (lw:List Work) (sl:List Slot) (dn:List Bool) (h:(nle (List.length l) 90000&&List.all l (fun a=>inb a (List.length dn)))=true):f0 l lw sl dn=bm (List.any l (aW dn)):=by
  show chk _ (bm _)=_
  rw [h,cS,fB]
theorem ok:CtxOk Try.prog X:=aU tab (spC rdX.spOk spN) dpN
theorem okM:MOk Try.prog X:=fun g sp h=>by cases h
theorem spec (l:List Int) (lw:List Work) (sl:List Slot) (dn:List Bool) (h:((nle (List.length l) 90000&&List.all l (fun a=>inb a (List.length dn))))=true):az Try.prog E 68 [(.lst .int l),(.fn 72 [] [(.pcs [(.pcs [(.lst .work lw),(.lst .slot sl),(.lst .bool dn)] 0)] 0)])] (.bool (List.any l (aW dn))) [] :=
  aq ok okM Try.call68 Try.func68 (by kernel_rfl) (by kernel_rfl) (by kernel_rfl) (by show 2≤9; decide) (by decide) (by rfl) ((run l lw sl dn).trans (f0_eq l lw sl dn h))
noncomputable def sp:Sp U El:=fun args k=>match args with
  | [.lst .int l,.fn 72 [] [.pcs [.pcs [.lst .work lw,.lst .slot sl,.lst .bool dn] 0] 0]]=>chk ((nle (List.length l) 90000&&List.all l (fun a=>inb a (List.length dn)))) (k (.bool (List.any l (aW dn))) [])
  | _=>none
theorem spOk:SpOk Try.prog E 68 sp where
  det:=fun vs=>by
    unfold sp
    split
    · exact bz _ _ _
    · exact ⟨none,fun _=>rfl⟩
  ok:=fun vs k r h=>by
    unfold sp at h
    split at h
    · obtain ⟨h1, h2⟩ := ab h
      exact ⟨_,_,spec _ _ _ _ h1,h2⟩
    · cases h
end rdC
namespace ready
noncomputable def bd:Code:=(Try.f44.body).getD .skip
noncomputable def X:Ctx U El:=⟨E,tds,zeros,eqs,aG [(68,rdC.sp)],100000,26,aD [],fun _=>none⟩
noncomputable def nmR:Norm U:=⟨[],[4],[],[],[],[],[]⟩
noncomputable def RR:ae U El:=fun st=>aM nmR st (aK [4] [])
noncomputable def fr0 (l:List Work) (sl:List Slot) (dn:List Bool) (i:Int):St U El:=⟨[(0,(.pcs [(.lst .work l),(.lst .slot sl),(.lst .bool dn)] 0)),(1,(.int .i64 i))],[]⟩
noncomputable def sh0 (l:List Work) (sl:List Slot) (dn:List Bool) (i:Int):R :=
  chk (inb i (List.length dn)) (ah (!(List.getD dn (Int.toNat i) d_bool)) (chk (inb i (List.length l)) (chk ((nle (List.length ((List.getD l (Int.toNat i) aa).wa)) 90000&&List.all ((List.getD l (Int.toNat i) aa).wa) (fun a=>inb a (List.length dn)))) (some ((.bool (!(List.any ((List.getD l (Int.toNat i) aa).wa) (aW dn)))),[])))) (some ((.bool false),[])))
theorem P0 (l sl dn i):ak X (cdp [] bd) .d (fr0 l sl dn i) RR (fun _ _=>none) RR=sh0 l sl dn i:=by kernel_rfl
noncomputable def f0 (l:List Work) (sl:List Slot) (dn:List Bool) (i:Int):R:=sh0 l sl dn i
theorem T0 (l sl dn i):ak X bd .d (fr0 l sl dn i) RR (fun _ _=>none) RR=f0 l sl dn i:=by
  refine (P0 l sl dn i).trans ?_
  show _=sh0 l sl dn i
  rfl
theorem run (l sl dn i):bg X bd .d nmR [4] [] [(.pcs [(.lst .work l),(.lst .slot sl),(.lst .bool dn)] 0),(.int .i64 i)]=f0 l sl dn i:=T0 l sl dn i
theorem f0_eq (l:List Work) (sl:List Slot) (dn:List Bool) (i:Int) (h:okR l dn i=true):f0 l sl dn i=bm (bx l dn i):=by
  simp only [okR,Bool.and_eq_true] at h
  obtain ⟨h1,h2,h3⟩:=h
  have hdl:=Nat.eq_of_beq_eq_true h2
  obtain ⟨g1,g2⟩:=cX h3
  have h1':=h1
  simp only [inb,Bool.and_eq_true] at h1'
  obtain ⟨q,rfl⟩:=Int.eq_ofNat_of_zero_le (b7 h1'.1)
  have hq:q < l.length:=by have:=dJ h1'.2; simp at this; omega
  have hm:=List.getElem_mem hq
  show sh0 l sl dn (q:Int)=_
  unfold sh0 bx
  rw [hdl,h1,ac,al hq,bC (g2 _ hm).1,show List.all l[q].wa (fun a=>inb a l.length)=true from List.all_eq_true.2 (g2 _ hm).2]
  cases List.getD dn q d_bool<;>rfl
theorem ok:CtxOk Try.prog X:=aU tab (spC rdC.spOk spN) dpN
theorem okM:MOk Try.prog X:=fun g sp h=>by cases h
theorem spec (l:List Work) (sl:List Slot) (dn:List Bool) (i:Int) (h:(okR l dn i)=true):az Try.prog E 44 [(.pcs [(.lst .work l),(.lst .slot sl),(.lst .bool dn)] 0),(.int .i64 i)] (.bool (bx l dn i)) [] :=
  aq ok okM Try.call44 Try.func44 (by kernel_rfl) (by kernel_rfl) (by kernel_rfl) (by show 2≤26; decide) (by decide) (by rfl) ((run l sl dn i).trans (f0_eq l sl dn i h))
noncomputable def sp:Sp U El:=fun args k=>match args with
  | [.pcs [.lst .work l,.lst .slot sl,.lst .bool dn] 0,.int .i64 i]=>chk (okR l dn i) (k (.bool (bx l dn i)) [])
  | _=>none
theorem spOk:SpOk Try.prog E 44 sp where
  det:=fun vs=>by
    unfold sp
    split
    · exact bz _ _ _
    · exact ⟨none,fun _=>rfl⟩
  ok:=fun vs k r h=>by
    unfold sp at h
    split at h
    · obtain ⟨h1, h2⟩ := ab h
      exact ⟨_,_,spec _ _ _ _ h1,h2⟩
    · cases h
end ready
namespace st1
noncomputable def bd:Code:=(Try.f75.body).getD .skip
noncomputable def X:Ctx U El:=⟨E,tds,zeros,eqs,aG [],100000,11,aD [],fun _=>none⟩
noncomputable def nmR:Norm U:=⟨[],[3],[],[],[],[],[]⟩
noncomputable def RR:ae U El:=fun st=>aM nmR st (aK [3] [])
noncomputable def fr0 (a:Int) (lw:List Work) (sl:List Slot) (dn:List Bool):St U El:=⟨[(0,(.int .i64 a)),(1,(.pcs [(.pcs [(.lst .work lw),(.lst .slot sl),(.lst .bool dn)] 0)] 0))],[]⟩
noncomputable def sh0 (a:Int) (lw:List Work) (sl:List Slot) (dn:List Bool):R :=
  chk (inb a (List.length dn)) (some ((.bool (List.getD dn (Int.toNat a) d_bool)),[]))
theorem P0 (a lw sl dn):ak X (cdp [] bd) .d (fr0 a lw sl dn) RR (fun _ _=>none) RR=sh0 a lw sl dn:=by kernel_rfl
noncomputable def f0 (a:Int) (lw:List Work) (sl:List Slot) (dn:List Bool):R:=sh0 a lw sl dn
theorem T0 (a lw sl dn):ak X bd .d (fr0 a lw sl dn) RR (fun _ _=>none) RR=f0 a lw sl dn:=by
  refine (P0 a lw sl dn).trans ?_
  show _=sh0 a lw sl dn
  rfl
theorem run (a lw sl dn):bg X bd .d nmR [3] [] [(.int .i64 a),(.pcs [(.pcs [(.lst .work lw),(.lst .slot sl),(.lst .bool dn)] 0)] 0)]=f0 a lw sl dn:=T0 a lw sl dn
theorem f0_eq (a:Int) (lw:List Work) (sl:List Slot) (dn:List Bool) (h:inb a (List.length dn)=true):f0 a lw sl dn=bm (List.getD dn (Int.toNat a) d_bool):=by
  show sh0 a lw sl dn=_
  unfold sh0
  rw [h]
  rfl
theorem ok:CtxOk Try.prog X:=aU tab spN dpN
theorem okM:MOk Try.prog X:=fun g sp h=>by cases h
theorem spec (a:Int) (lw:List Work) (sl:List Slot) (dn:List Bool) (h:(inb a (List.length dn))=true):az Try.prog E 75 [(.int .i64 a),(.pcs [(.pcs [(.lst .work lw),(.lst .slot sl),(.lst .bool dn)] 0)] 0)] (.bool (List.getD dn (Int.toNat a) d_bool)) [] :=
  aq ok okM Try.call75 Try.func75 (by kernel_rfl) (by kernel_rfl) (by kernel_rfl) (by show 2≤11; decide) (by decide) (by rfl) ((run a lw sl dn).trans (f0_eq a lw sl dn h))
noncomputable def sp:Sp U El:=fun args k=>match args with
  | [.int .i64 a,.pcs [.pcs [.lst .work lw,.lst .slot sl,.lst .bool dn] 0] 0]=>chk (inb a (List.length dn)) (k (.bool (List.getD dn (Int.toNat a) d_bool)) [])
  | _=>none
theorem spOk:SpOk Try.prog E 75 sp where
  det:=fun vs=>by
    unfold sp
    split
    · exact bz _ _ _
    · exact ⟨none,fun _=>rfl⟩
  ok:=fun vs k r h=>by
    unfold sp at h
    split at h
    · obtain ⟨h1, h2⟩ := ab h
      exact ⟨_,_,spec _ _ _ _ h1,h2⟩
    · cases h
end st1
noncomputable def fM (l:List Work) (p:List Slot) (dn:List Bool) (i k:Nat):Bool:=List.getD dn k d_bool&&jI l p i k
noncomputable def fN (l:List Work) (p:List Slot) (dn:List Bool) (i k:Nat):Bool:=List.getD dn k d_bool&&jJ l p i k
noncomputable def ci (l:List Work) (p:List Slot) (dn:List Bool) (i:Nat):Int :=
  bif (List.getD p i d_slot).sw != (i:Int) then 25 else bif !(List.any (List.getD l i aa).wc (bc (List.getD p i d_slot).sc)) then 11 else bif !(ile 0 (List.getD p i d_slot).ss&&ile (List.getD p i d_slot).ss 1000000) then 2 else bif List.any (List.getD l i aa).wa (iJ l p i) then 17 else bif dY (fM l p dn i) l.length 0 then 10 else bif dY (fN l p dn i) l.length 0 then 15 else 0
noncomputable def ia (l:List Work) (p:List Slot) (dn:List Bool) (i:Int):Int:=ci l p dn (Int.toNat i)
noncomputable def okD (l:List Work) (p:List Slot) (dn:List Bool) (i:Int):Bool:=okF l p i&&Nat.beq dn.length l.length
namespace faultDr
noncomputable def bd:Code:=(Try.f32.body).getD .skip
noncomputable def X:Ctx U El:=⟨E,tds,zeros,eqs,aG [(23,hasI.sp),(35,within.sp),(75,st1.sp)],100000,138,aD [],fun _=>none⟩
noncomputable def nmR:Norm U:=⟨[],[8],[],[],[],[],[]⟩
noncomputable def RR:ae U El:=fun st=>aM nmR st (aK [8] [])
noncomputable def nm1:Norm U:=⟨[],[0,1,2,3,9,10],[9,10],[],[],[],[(9,2,.int),(9,4,.int)]⟩
noncomputable def nm2:Norm U:=⟨[],[0,1,2,3,9,10,42,43,44],[9,10],[],[],[],[(9,2,.int),(9,4,.int)]⟩
noncomputable def nm3:Norm U:=⟨[],[13,14],[],[],[],[],[]⟩
noncomputable def nm4:Norm U:=⟨[],[0,1,2,3,9,10,13,14,64,65],[9,10],[],[],[],[(9,2,.int),(9,4,.int)]⟩
noncomputable def nm5:Norm U:=⟨[],[0,1,2,3,9,10,13,14,64,65],[9,10],[],[],[],[(9,2,.int),(9,4,.int)]⟩
noncomputable def nm6:Norm U:=⟨[],[0,1,2,3,9,10,13,14,15,64,65],[9,10],[],[],[],[(9,2,.int),(9,4,.int)]⟩
noncomputable def nm7:Norm U:=⟨[],[0,1,2,3,9,10,13,14,15,64,65],[9,10],[],[],[],[(9,2,.int),(9,4,.int)]⟩
abbrev Y1:=(List Work)→(List Slot)→Int→(List Work)→(List Slot)→(List Bool)→(List UInt8)→Int→(List Int)→(List UInt8)→(List Int)→Int→Int→Slot→R
abbrev Y2:=(List Work)→(List Slot)→Int→(List Work)→(List Slot)→(List Bool)→(List Int)→Int→Int→(List UInt8)→Int→(List Int)→(List UInt8)→(List Int)→Int→Int→Slot→R
abbrev Y3:=Bool→Bool→R
abbrev Y4:=(List Work)→(List Slot)→Int→(List Work)→(List Slot)→(List Bool)→Bool→Bool→Int→Int→(List UInt8)→Int→(List Int)→(List UInt8)→(List Int)→Int→Int→Slot→R
abbrev Y5:=(List Work)→(List Slot)→Int→(List Work)→(List Slot)→(List Bool)→Bool→Bool→Int→Int→(List UInt8)→Int→(List Int)→(List UInt8)→(List Int)→Int→Int→Slot→R
abbrev Y6:=(List Work)→(List Slot)→Int→(List Work)→(List Slot)→(List Bool)→Bool→Bool→Int→Int→Int→(List UInt8)→Int→(List Int)→(List UInt8)→(List Int)→Int→Int→Slot→R
abbrev Y7:=(List Work)→(List Slot)→Int→(List Work)→(List Slot)→(List Bool)→Bool→Bool→Int→Int→Int→(List UInt8)→Int→(List Int)→(List UInt8)→(List Int)→Int→Int→Slot→R
noncomputable def fr0 (l:List Work) (p:List Slot) (i:Int) (lw:List Work) (sl:List Slot) (dn:List Bool):St U El:=⟨[(0,(.lst .work l)),(1,(.lst .slot p)),(2,(.int .i64 i)),(3,(.fn 75 [] [(.pcs [(.pcs [(.lst .work lw),(.lst .slot sl),(.lst .bool dn)] 0)] 0)]))],[]⟩
noncomputable def fr1 (l0:List Work) (p1:List Slot) (i2:Int) (others3c_0_0:List Work) (others3c_0_1:List Slot) (others3c_0_2:List Bool) (eA:List UInt8) (dA:Int) (fA:List Int) (cA:List UInt8) (gA:List Int) (hA:Int) (iA:Int) (jA:Slot):St U El:=⟨[(0,(.lst .work l0)),(1,(.lst .slot p1)),(2,(.int .i64 i2)),(3,(.fn 75 [] [(.pcs [(.pcs [(.lst .work others3c_0_0),(.lst .slot others3c_0_1),(.lst .bool others3c_0_2)] 0)] 0)])),(9,(.ptr 9 0)),(10,(.ptr 10 0))],[(9,(.box 0 [(.str eA),(.int .i64 dA),(.lst .int fA),(.str cA),(.lst .int gA),(.int .i64 hA),(.int .i64 iA)])),(10,(.box 0 [(.int .i64 jA.sw),(.int .i64 jA.sc),(.int .i64 jA.ss)]))]⟩
noncomputable def fr2 (l0:List Work) (p1:List Slot) (i2:Int) (others3c_0_0:List Work) (others3c_0_1:List Slot) (others3c_0_2:List Bool) (oA:List Int) (pA:Int) (nA:Int) (eA:List UInt8) (dA:Int) (fA:List Int) (cA:List UInt8) (gA:List Int) (hA:Int) (iA:Int) (jA:Slot):St U El:=⟨[(0,(.lst .work l0)),(1,(.lst .slot p1)),(2,(.int .i64 i2)),(3,(.fn 75 [] [(.pcs [(.pcs [(.lst .work others3c_0_0),(.lst .slot others3c_0_1),(.lst .bool others3c_0_2)] 0)] 0)])),(9,(.ptr 9 0)),(10,(.ptr 10 0)),(42,(.lst .int oA)),(43,(.int .i64 pA)),(44,(.int .i64 nA))],[(9,(.box 0 [(.str eA),(.int .i64 dA),(.lst .int fA),(.str cA),(.lst .int gA),(.int .i64 hA),(.int .i64 iA)])),(10,(.box 0 [(.int .i64 jA.sw),(.int .i64 jA.sc),(.int .i64 jA.ss)]))]⟩
noncomputable def fr3 (bA:Bool) (aA:Bool):St U El:=⟨[(13,(.bool bA)),(14,(.bool aA))],[]⟩
noncomputable def fr4 (l0:List Work) (p1:List Slot) (i2:Int) (others3c_0_0:List Work) (others3c_0_1:List Slot) (others3c_0_2:List Bool) (bA:Bool) (aA:Bool) (lA:Int) (kA:Int) (eA:List UInt8) (dA:Int) (fA:List Int) (cA:List UInt8) (gA:List Int) (hA:Int) (iA:Int) (jA:Slot):St U El:=⟨[(0,(.lst .work l0)),(1,(.lst .slot p1)),(2,(.int .i64 i2)),(3,(.fn 75 [] [(.pcs [(.pcs [(.lst .work others3c_0_0),(.lst .slot others3c_0_1),(.lst .bool others3c_0_2)] 0)] 0)])),(9,(.ptr 9 0)),(10,(.ptr 10 0)),(13,(.bool bA)),(14,(.bool aA)),(64,(.int .i64 lA)),(65,(.int .i64 kA))],[(9,(.box 0 [(.str eA),(.int .i64 dA),(.lst .int fA),(.str cA),(.lst .int gA),(.int .i64 hA),(.int .i64 iA)])),(10,(.box 0 [(.int .i64 jA.sw),(.int .i64 jA.sc),(.int .i64 jA.ss)]))]⟩
noncomputable def fr5 (l0:List Work) (p1:List Slot) (i2:Int) (others3c_0_0:List Work) (others3c_0_1:List Slot) (others3c_0_2:List Bool) (bA:Bool) (aA:Bool) (lA:Int) (kA:Int) (eA:List UInt8) (dA:Int) (fA:List Int) (cA:List UInt8) (gA:List Int) (hA:Int) (iA:Int) (jA:Slot):St U El:=⟨[(0,(.lst .work l0)),(1,(.lst .slot p1)),(2,(.int .i64 i2)),(3,(.fn 75 [] [(.pcs [(.pcs [(.lst .work others3c_0_0),(.lst .slot others3c_0_1),(.lst .bool others3c_0_2)] 0)] 0)])),(9,(.ptr 9 0)),(10,(.ptr 10 0)),(13,(.bool bA)),(14,(.bool aA)),(64,(.int .i64 lA)),(65,(.int .i64 kA))],[(9,(.box 0 [(.str eA),(.int .i64 dA),(.lst .int fA),(.str cA),(.lst .int gA),(.int .i64 hA),(.int .i64 iA)])),(10,(.box 0 [(.int .i64 jA.sw),(.int .i64 jA.sc),(.int .i64 jA.ss)]))]⟩
noncomputable def fr6 (l0:List Work) (p1:List Slot) (i2:Int) (others3c_0_0:List Work) (others3c_0_1:List Slot) (others3c_0_2:List Bool) (bA:Bool) (aA:Bool) (mA:Int) (lA:Int) (kA:Int) (eA:List UInt8) (dA:Int) (fA:List Int) (cA:List UInt8) (gA:List Int) (hA:Int) (iA:Int) (jA:Slot):St U El:=⟨[(0,(.lst .work l0)),(1,(.lst .slot p1)),(2,(.int .i64 i2)),(3,(.fn 75 [] [(.pcs [(.pcs [(.lst .work others3c_0_0),(.lst .slot others3c_0_1),(.lst .bool others3c_0_2)] 0)] 0)])),(9,(.ptr 9 0)),(10,(.ptr 10 0)),(13,(.bool bA)),(14,(.bool aA)),(15,(.int .i64 mA)),(64,(.int .i64 lA)),(65,(.int .i64 kA))],[(9,(.box 0 [(.str eA),(.int .i64 dA),(.lst .int fA),(.str cA),(.lst .int gA),(.int .i64 hA),(.int .i64 iA)])),(10,(.box 0 [(.int .i64 jA.sw),(.int .i64 jA.sc),(.int .i64 jA.ss)]))]⟩
noncomputable def fr7 (l0:List Work) (p1:List Slot) (i2:Int) (others3c_0_0:List Work) (others3c_0_1:List Slot) (others3c_0_2:List Bool) (bA:Bool) (aA:Bool) (mA:Int) (lA:Int) (kA:Int) (eA:List UInt8) (dA:Int) (fA:List Int) (cA:List UInt8) (gA:List Int) (hA:Int) (iA:Int) (jA:Slot):St U El:=⟨[(0,(.lst .work l0)),(1,(.lst .slot p1)),(2,(.int .i64 i2)),(3,(.fn 75 [] [(.pcs [(.pcs [(.lst .work others3c_0_0),(.lst .slot others3c_0_1),(.lst .bool others3c_0_2)] 0)] 0)])),(9,(.ptr 9 0)),(10,(.ptr 10 0)),(13,(.bool bA)),(14,(.bool aA)),(15,(.int .i64 mA)),(64,(.int .i64 lA)),(65,(.int .i64 kA))],[(9,(.box 0 [(.str eA),(.int .i64 dA),(.lst .int fA),(.str cA),(.lst .int gA),(.int .i64 hA),(.int .i64 iA)])),(10,(.box 0 [(.int .i64 jA.sw),(.int .i64 jA.sc),(.int .i64 jA.ss)]))]⟩
noncomputable def sh0 (l:List Work) (p:List Slot) (i:Int) (lw:List Work) (sl:List Slot) (dn:List Bool) (k2:Y2):R :=
  chk (inb i (List.length l)) (chk (inb i (List.length p)) (ah ((List.getD p (Int.toNat i) d_slot).sw != i) (some ((.int .i64 (25:Int)),[])) (chk (nle (List.length ((List.getD l (Int.toNat i) aa).wc)) 90000) (ah (!(List.any ((List.getD l (Int.toNat i) aa).wc) (bc ((List.getD p (Int.toNat i) d_slot).sc)))) (some ((.int .i64 (11:Int)),[])) (ah (!((ile (0:Int) ((List.getD p (Int.toNat i) d_slot).ss)&&ile ((List.getD p (Int.toNat i) d_slot).ss) (1000000:Int)))) (some ((.int .i64 (2:Int)),[])) (k2 l p i lw sl dn ((List.getD l (Int.toNat i) aa).wa) (Int.ofNat (List.length ((List.getD l (Int.toNat i) aa).wa))) (0:Int) ((List.getD l (Int.toNat i) aa).wn) ((List.getD l (Int.toNat i) aa).wh) ((List.getD l (Int.toNat i) aa).wc) ((List.getD l (Int.toNat i) aa).ws) ((List.getD l (Int.toNat i) aa).wa) ((List.getD l (Int.toNat i) aa).wd) ((List.getD l (Int.toNat i) aa).wp) (List.getD p (Int.toNat i) d_slot)))))))
noncomputable def sh1 (l0:List Work) (p1:List Slot) (i2:Int) (others3c_0_0:List Work) (others3c_0_1:List Slot) (others3c_0_2:List Bool) (eA:List UInt8) (dA:Int) (fA:List Int) (cA:List UInt8) (gA:List Int) (hA:Int) (iA:Int) (jA:Slot) (k4:Y4):R :=
  k4 l0 p1 i2 others3c_0_0 others3c_0_1 others3c_0_2 false false (Int.ofNat (List.length l0)) (0:Int) eA dA fA cA gA hA iA jA
noncomputable def sh2 (l0:List Work) (p1:List Slot) (i2:Int) (others3c_0_0:List Work) (others3c_0_1:List Slot) (others3c_0_2:List Bool) (oA:List Int) (pA:Int) (nA:Int) (eA:List UInt8) (dA:Int) (fA:List Int) (cA:List UInt8) (gA:List Int) (hA:Int) (iA:Int) (jA:Slot) (k1:Y1) (k2:Y2):R :=
  ah (ilt nA pA) (chk (inb nA (List.length oA)) (chk (inb (List.getD oA (Int.toNat nA) d_int) (List.length p1)) (chk (inb (List.getD oA (Int.toNat nA) d_int) (List.length l0)) (ah (ilt (IntKind.wrap .i64 (jA.ss - (List.getD l0 (Int.toNat (List.getD oA (Int.toNat nA) d_int)) aa).wh)) ((List.getD p1 (Int.toNat (List.getD oA (Int.toNat nA) d_int)) d_slot).ss)) (some ((.int .i64 (17:Int)),[])) (k2 l0 p1 i2 others3c_0_0 others3c_0_1 others3c_0_2 oA pA (IntKind.wrap .i64 (nA+(1:Int))) eA dA fA cA gA hA iA jA))))) (k1 l0 p1 i2 others3c_0_0 others3c_0_1 others3c_0_2 eA dA fA cA gA hA iA jA)
noncomputable def sh3 (bA:Bool) (aA:Bool):R :=
  ah bA (some ((.int .i64 (10:Int)),[])) (ah aA (some ((.int .i64 (15:Int)),[])) (some ((.int .i64 (0:Int)),[])))
noncomputable def sh4 (l0:List Work) (p1:List Slot) (i2:Int) (others3c_0_0:List Work) (others3c_0_1:List Slot) (others3c_0_2:List Bool) (bA:Bool) (aA:Bool) (lA:Int) (kA:Int) (eA:List UInt8) (dA:Int) (fA:List Int) (cA:List UInt8) (gA:List Int) (hA:Int) (iA:Int) (jA:Slot) (k3:Y3) (k5:Y5) (k6:Y6):R :=
  ah (ilt kA lA) (ah (kA == i2) (k5 l0 p1 i2 others3c_0_0 others3c_0_1 others3c_0_2 bA aA lA kA eA dA fA cA gA hA iA jA) (chk (inb kA (List.length others3c_0_2)) (ah (!(List.getD others3c_0_2 (Int.toNat kA) d_bool)) (k5 l0 p1 i2 others3c_0_0 others3c_0_1 others3c_0_2 bA aA lA kA eA dA fA cA gA hA iA jA) (chk (inb kA (List.length p1)) (ah (ile (IntKind.wrap .i64 (jA.ss+dA)) ((List.getD p1 (Int.toNat kA) d_slot).ss)) (k5 l0 p1 i2 others3c_0_0 others3c_0_1 others3c_0_2 bA aA lA kA eA dA fA cA gA hA iA jA) (chk (inb kA (List.length p1)) (chk (inb kA (List.length l0)) (ah (ile ((List.getD p1 (Int.toNat kA) d_slot).ss) (IntKind.wrap .i64 (jA.ss - (List.getD l0 (Int.toNat kA) aa).wh))) (k5 l0 p1 i2 others3c_0_0 others3c_0_1 others3c_0_2 bA aA lA kA eA dA fA cA gA hA iA jA) (k6 l0 p1 i2 others3c_0_0 others3c_0_1 others3c_0_2 bA aA kA lA kA eA dA fA cA gA hA iA jA))))))))) (k3 bA aA)
noncomputable def sh5 (l0:List Work) (p1:List Slot) (i2:Int) (others3c_0_0:List Work) (others3c_0_1:List Slot) (others3c_0_2:List Bool) (bA:Bool) (aA:Bool) (lA:Int) (kA:Int) (eA:List UInt8) (dA:Int) (fA:List Int) (cA:List UInt8) (gA:List Int) (hA:Int) (iA:Int) (jA:Slot) (k4:Y4):R :=
  k4 l0 p1 i2 others3c_0_0 others3c_0_1 others3c_0_2 bA aA lA (IntKind.wrap .i64 (kA+(1:Int))) eA dA fA cA gA hA iA jA
noncomputable def sh6 (l0:List Work) (p1:List Slot) (i2:Int) (others3c_0_0:List Work) (others3c_0_1:List Slot) (others3c_0_2:List Bool) (bA:Bool) (aA:Bool) (mA:Int) (lA:Int) (kA:Int) (eA:List UInt8) (dA:Int) (fA:List Int) (cA:List UInt8) (gA:List Int) (hA:Int) (iA:Int) (jA:Slot) (k7:Y7):R :=
  ah bA (k7 l0 p1 i2 others3c_0_0 others3c_0_1 others3c_0_2 true aA mA lA kA eA dA fA cA gA hA iA jA) (chk (inb mA (List.length p1)) (k7 l0 p1 i2 others3c_0_0 others3c_0_1 others3c_0_2 ((List.getD p1 (Int.toNat mA) d_slot).sc == jA.sc) aA mA lA kA eA dA fA cA gA hA iA jA))
noncomputable def sh7 (l0:List Work) (p1:List Slot) (i2:Int) (others3c_0_0:List Work) (others3c_0_1:List Slot) (others3c_0_2:List Bool) (bA:Bool) (aA:Bool) (mA:Int) (lA:Int) (kA:Int) (eA:List UInt8) (dA:Int) (fA:List Int) (cA:List UInt8) (gA:List Int) (hA:Int) (iA:Int) (jA:Slot) (k5:Y5):R :=
  ah aA (k5 l0 p1 i2 others3c_0_0 others3c_0_1 others3c_0_2 bA true lA kA eA dA fA cA gA hA iA jA) (ah (!(cA == ([]:List UInt8))) (chk (inb mA (List.length l0)) (k5 l0 p1 i2 others3c_0_0 others3c_0_1 others3c_0_2 bA (((List.getD l0 (Int.toNat mA) aa).ws) == cA) lA kA eA dA fA cA gA hA iA jA)) (k5 l0 p1 i2 others3c_0_0 others3c_0_1 others3c_0_2 bA false lA kA eA dA fA cA gA hA iA jA))
noncomputable def it2 (Kb1:ae U El) (n:Nat):ae U El:=bL nm2 (fun st' K'=>ak X (cdp [1,1,1,0,1,0,0] bd) .d st' K' (aw 1 (ap nm1 Kb1) (fun _ _=>none)) RR) n
noncomputable def it4 (Kb3:ae U El) (n:Nat):ae U El:=bL nm4 (fun st' K'=>ak X (cdp [1,1,1,1,1,0,1,0,0] bd) (.seq none .d (.seq none .d (.seq (some nm5) (.block (.seq none .d (.seq (some nm6) .d (.seq (some nm7) .d .d)))) .d))) st' K' (aw 3 (ap nm3 Kb3) (fun _ _=>none)) RR) n
noncomputable def ct1:ae U El:=fun st=>ak X (cdp [1,1,1,1] bd) (.seq none .d (.seq (some nm3) (.seq none .d (.block (.loop nm4 (.seq none .d (.seq none .d (.seq (some nm5) (.block (.seq none .d (.seq (some nm6) .d (.seq (some nm7) .d .d)))) .d)))))) .d)) st RR (fun _ _=>none) RR
noncomputable def ct3:ae U El:=fun st=>ak X (cdp [1,1,1,1,1,1] bd) .d st RR (fun _ _=>none) RR
noncomputable def ct5 (Kb3 Kb4:ae U El):ae U El:=fun st=>ak X (cdp [1,1,1,1,1,0,1,0,0,1,1,1] bd) .d st (ap nm4 Kb4) (aw 3 (ap nm3 Kb3) (fun _ _=>none)) RR
noncomputable def ct6 (Kb3 Kb5:ae U El):ae U El:=fun st=>ak X (cdp [1,1,1,1,1,0,1,0,0,1,1,0,0,1,1] bd) (.seq (some nm7) .d .d) st (ap nm5 Kb5) (aw 4 (ap nm5 Kb5) (aw 3 (ap nm3 Kb3) (fun _ _=>none))) RR
noncomputable def ct7 (Kb3 Kb5:ae U El):ae U El:=fun st=>ak X (cdp [1,1,1,1,1,0,1,0,0,1,1,0,0,1,1,1] bd) .d st (ap nm5 Kb5) (aw 4 (ap nm5 Kb5) (aw 3 (ap nm3 Kb3) (fun _ _=>none))) RR
theorem P0 (l p i lw sl dn):ak X (cdp [] bd) (.seq none .d (.seq none (.region [(10,9),(11,10)]) (.seq none .d (.seq (some nm1) (.seq none .d (.block (.loop nm2 .d))) (.seq none .d (.seq (some nm3) (.seq none .d (.block (.loop nm4 (.seq none .d (.seq none .d (.seq (some nm5) (.block (.seq none .d (.seq (some nm6) .d (.seq (some nm7) .d .d)))) .d)))))) .d)))))) (fr0 l p i lw sl dn) RR (fun _ _=>none) RR=sh0 l p i lw sl dn (fun y0 y1 y2 y3 y4 y5 y6 y7 y8 y9 y10 y11 y12 y13 y14 y15 y16=>(hid (it2 (hid ct1) 100000)) (fr2 y0 y1 y2 y3 y4 y5 y6 y7 y8 y9 y10 y11 y12 y13 y14 y15 y16)):=by kernel_rfl
theorem P1 (l0 p1 i2 others3c_0_0 others3c_0_1 others3c_0_2 eA dA fA cA gA hA iA jA):ct1 (fr1 l0 p1 i2 others3c_0_0 others3c_0_1 others3c_0_2 eA dA fA cA gA hA iA jA)=sh1 l0 p1 i2 others3c_0_0 others3c_0_1 others3c_0_2 eA dA fA cA gA hA iA jA (fun y0 y1 y2 y3 y4 y5 y6 y7 y8 y9 y10 y11 y12 y13 y14 y15 y16 y17=>(hid (it4 (hid ct3) 100000)) (fr4 y0 y1 y2 y3 y4 y5 y6 y7 y8 y9 y10 y11 y12 y13 y14 y15 y16 y17)):=by kernel_rfl
theorem P2 (l0 p1 i2 others3c_0_0 others3c_0_1 others3c_0_2 oA pA nA eA dA fA cA gA hA iA jA) (Kb1 Kb2:ae U El):ak X (cdp [1,1,1,0,1,0,0] bd) .d (fr2 l0 p1 i2 others3c_0_0 others3c_0_1 others3c_0_2 oA pA nA eA dA fA cA gA hA iA jA) (ap nm2 Kb2) (aw 1 (ap nm1 Kb1) (fun _ _=>none)) RR=sh2 l0 p1 i2 others3c_0_0 others3c_0_1 others3c_0_2 oA pA nA eA dA fA cA gA hA iA jA (fun y0 y1 y2 y3 y4 y5 y6 y7 y8 y9 y10 y11 y12 y13=>Kb1 (fr1 y0 y1 y2 y3 y4 y5 y6 y7 y8 y9 y10 y11 y12 y13)) (fun y0 y1 y2 y3 y4 y5 y6 y7 y8 y9 y10 y11 y12 y13 y14 y15 y16=>Kb2 (fr2 y0 y1 y2 y3 y4 y5 y6 y7 y8 y9 y10 y11 y12 y13 y14 y15 y16)):=by kernel_rfl
theorem P3 (bA aA):ct3 (fr3 bA aA)=sh3 bA aA:=by kernel_rfl
theorem P4 (l0 p1 i2 others3c_0_0 others3c_0_1 others3c_0_2 bA aA lA kA eA dA fA cA gA hA iA jA) (Kb3 Kb4:ae U El):ak X (cdp [1,1,1,1,1,0,1,0,0] bd) (.seq none .d (.seq none .d (.seq (some nm5) (.block (.seq none .d (.seq (some nm6) .d (.seq (some nm7) .d .d)))) .d))) (fr4 l0 p1 i2 others3c_0_0 others3c_0_1 others3c_0_2 bA aA lA kA eA dA fA cA gA hA iA jA) (ap nm4 Kb4) (aw 3 (ap nm3 Kb3) (fun _ _=>none)) RR=sh4 l0 p1 i2 others3c_0_0 others3c_0_1 others3c_0_2 bA aA lA kA eA dA fA cA gA hA iA jA (fun y0 y1=>Kb3 (fr3 y0 y1)) (fun y0 y1 y2 y3 y4 y5 y6 y7 y8 y9 y10 y11 y12 y13 y14 y15 y16 y17=>(hid (ct5 Kb3 Kb4)) (fr5 y0 y1 y2 y3 y4 y5 y6 y7 y8 y9 y10 y11 y12 y13 y14 y15 y16 y17)) (fun y0 y1 y2 y3 y4 y5 y6 y7 y8 y9 y10 y11 y12 y13 y14 y15 y16 y17 y18=>(hid (ct6 Kb3 (hid (ct5 Kb3 Kb4)))) (fr6 y0 y1 y2 y3 y4 y5 y6 y7 y8 y9 y10 y11 y12 y13 y14 y15 y16 y17 y18)):=by kernel_rfl
theorem P5 (l0 p1 i2 others3c_0_0 others3c_0_1 others3c_0_2 bA aA lA kA eA dA fA cA gA hA iA jA) (Kb3 Kb4:ae U El):ct5 Kb3 Kb4 (fr5 l0 p1 i2 others3c_0_0 others3c_0_1 others3c_0_2 bA aA lA kA eA dA fA cA gA hA iA jA)=sh5 l0 p1 i2 others3c_0_0 others3c_0_1 others3c_0_2 bA aA lA kA eA dA fA cA gA hA iA jA (fun y0 y1 y2 y3 y4 y5 y6 y7 y8 y9 y10 y11 y12 y13 y14 y15 y16 y17=>Kb4 (fr4 y0 y1 y2 y3 y4 y5 y6 y7 y8 y9 y10 y11 y12 y13 y14 y15 y16 y17)):=by kernel_rfl
theorem P6 (l0 p1 i2 others3c_0_0 others3c_0_1 others3c_0_2 bA aA mA lA kA eA dA fA cA gA hA iA jA) (Kb3 Kb5:ae U El):ct6 Kb3 Kb5 (fr6 l0 p1 i2 others3c_0_0 others3c_0_1 others3c_0_2 bA aA mA lA kA eA dA fA cA gA hA iA jA)=sh6 l0 p1 i2 others3c_0_0 others3c_0_1 others3c_0_2 bA aA mA lA kA eA dA fA cA gA hA iA jA (fun y0 y1 y2 y3 y4 y5 y6 y7 y8 y9 y10 y11 y12 y13 y14 y15 y16 y17 y18=>(hid (ct7 Kb3 Kb5)) (fr7 y0 y1 y2 y3 y4 y5 y6 y7 y8 y9 y10 y11 y12 y13 y14 y15 y16 y17 y18)):=by kernel_rfl
theorem P7 (l0 p1 i2 others3c_0_0 others3c_0_1 others3c_0_2 bA aA mA lA kA eA dA fA cA gA hA iA jA) (Kb3 Kb5:ae U El):ct7 Kb3 Kb5 (fr7 l0 p1 i2 others3c_0_0 others3c_0_1 others3c_0_2 bA aA mA lA kA eA dA fA cA gA hA iA jA)=sh7 l0 p1 i2 others3c_0_0 others3c_0_1 others3c_0_2 bA aA mA lA kA eA dA fA cA gA hA iA jA (fun y0 y1 y2 y3 y4 y5 y6 y7 y8 y9 y10 y11 y12 y13 y14 y15 y16 y17=>Kb5 (fr5 y0 y1 y2 y3 y4 y5 y6 y7 y8 y9 y10 y11 y12 y13 y14 y15 y16 y17)):=by kernel_rfl
noncomputable def f3 (bA:Bool) (aA:Bool):R:=sh3 bA aA
noncomputable def f5 (k4:Y4) (l0:List Work) (p1:List Slot) (i2:Int) (others3c_0_0:List Work) (others3c_0_1:List Slot) (others3c_0_2:List Bool) (bA:Bool) (aA:Bool) (lA:Int) (kA:Int) (eA:List UInt8) (dA:Int) (fA:List Int) (cA:List UInt8) (gA:List Int) (hA:Int) (iA:Int) (jA:Slot):R:=sh5 l0 p1 i2 others3c_0_0 others3c_0_1 others3c_0_2 bA aA lA kA eA dA fA cA gA hA iA jA k4
noncomputable def f7 (k4:Y4) (l0:List Work) (p1:List Slot) (i2:Int) (others3c_0_0:List Work) (others3c_0_1:List Slot) (others3c_0_2:List Bool) (bA:Bool) (aA:Bool) (mA:Int) (lA:Int) (kA:Int) (eA:List UInt8) (dA:Int) (fA:List Int) (cA:List UInt8) (gA:List Int) (hA:Int) (iA:Int) (jA:Slot):R:=sh7 l0 p1 i2 others3c_0_0 others3c_0_1 others3c_0_2 bA aA mA lA kA eA dA fA cA gA hA iA jA (f5 k4)
noncomputable def f6 (k4:Y4) (l0:List Work) (p1:List Slot) (i2:Int) (others3c_0_0:List Work) (others3c_0_1:List Slot) (others3c_0_2:List Bool) (bA:Bool) (aA:Bool) (mA:Int) (lA:Int) (kA:Int) (eA:List UInt8) (dA:Int) (fA:List Int) (cA:List UInt8) (gA:List Int) (hA:Int) (iA:Int) (jA:Slot):R:=sh6 l0 p1 i2 others3c_0_0 others3c_0_1 others3c_0_2 bA aA mA lA kA eA dA fA cA gA hA iA jA (f7 k4)
noncomputable def f4:Nat→Y4
  | 0=>fun _ _ _ _ _ _ _ _ _ _ _ _ _ _ _ _ _ _=>none
  | n+1=>fun l0 p1 i2 others3c_0_0 others3c_0_1 others3c_0_2 bA aA lA kA eA dA fA cA gA hA iA jA=>sh4 l0 p1 i2 others3c_0_0 others3c_0_1 others3c_0_2 bA aA lA kA eA dA fA cA gA hA iA jA f3 (f5 (f4 n)) (f6 (f4 n))
noncomputable def f1 (l0:List Work) (p1:List Slot) (i2:Int) (others3c_0_0:List Work) (others3c_0_1:List Slot) (others3c_0_2:List Bool) (eA:List UInt8) (dA:Int) (fA:List Int) (cA:List UInt8) (gA:List Int) (hA:Int) (iA:Int) (jA:Slot):R:=sh1 l0 p1 i2 others3c_0_0 others3c_0_1 others3c_0_2 eA dA fA cA gA hA iA jA (f4 100000)
noncomputable def f2:Nat→Y2
  | 0=>fun _ _ _ _ _ _ _ _ _ _ _ _ _ _ _ _ _=>none
  | n+1=>fun l0 p1 i2 others3c_0_0 others3c_0_1 others3c_0_2 oA pA nA eA dA fA cA gA hA iA jA=>sh2 l0 p1 i2 others3c_0_0 others3c_0_1 others3c_0_2 oA pA nA eA dA fA cA gA hA iA jA f1 (f2 n)
noncomputable def f0 (l:List Work) (p:List Slot) (i:Int) (lw:List Work) (sl:List Slot) (dn:List Bool):R:=sh0 l p i lw sl dn (f2 100000)
theorem T3 (bA aA):(hid ct3) (fr3 bA aA)=f3 bA aA:=by
  refine (congrFun (am _) _).trans <| (P3 bA aA).trans ?_
  show _=sh3 bA aA
  rfl
theorem T5 (KL4:ae U El) (k4:Y4) (h4:∀ l0 p1 i2 others3c_0_0 others3c_0_1 others3c_0_2 bA aA lA kA eA dA fA cA gA hA iA jA,KL4 (fr4 l0 p1 i2 others3c_0_0 others3c_0_1 others3c_0_2 bA aA lA kA eA dA fA cA gA hA iA jA)=k4 l0 p1 i2 others3c_0_0 others3c_0_1 others3c_0_2 bA aA lA kA eA dA fA cA gA hA iA jA) (l0 p1 i2 others3c_0_0 others3c_0_1 others3c_0_2 bA aA lA kA eA dA fA cA gA hA iA jA):(hid (ct5 (hid ct3) KL4)) (fr5 l0 p1 i2 others3c_0_0 others3c_0_1 others3c_0_2 bA aA lA kA eA dA fA cA gA hA iA jA)=f5 k4 l0 p1 i2 others3c_0_0 others3c_0_1 others3c_0_2 bA aA lA kA eA dA fA cA gA hA iA jA:=by
  refine (congrFun (am _) _).trans <| (P5 l0 p1 i2 others3c_0_0 others3c_0_1 others3c_0_2 bA aA lA kA eA dA fA cA gA hA iA jA (hid ct3) KL4).trans ?_
  show _=sh5 l0 p1 i2 others3c_0_0 others3c_0_1 others3c_0_2 bA aA lA kA eA dA fA cA gA hA iA jA k4
  simp only [h4]
theorem T7 (KL4:ae U El) (k4:Y4) (h4:∀ l0 p1 i2 others3c_0_0 others3c_0_1 others3c_0_2 bA aA lA kA eA dA fA cA gA hA iA jA,KL4 (fr4 l0 p1 i2 others3c_0_0 others3c_0_1 others3c_0_2 bA aA lA kA eA dA fA cA gA hA iA jA)=k4 l0 p1 i2 others3c_0_0 others3c_0_1 others3c_0_2 bA aA lA kA eA dA fA cA gA hA iA jA) (l0 p1 i2 others3c_0_0 others3c_0_1 others3c_0_2 bA aA mA lA kA eA dA fA cA gA hA iA jA):(hid (ct7 (hid ct3) (hid (ct5 (hid ct3) KL4)))) (fr7 l0 p1 i2 others3c_0_0 others3c_0_1 others3c_0_2 bA aA mA lA kA eA dA fA cA gA hA iA jA)=f7 k4 l0 p1 i2 others3c_0_0 others3c_0_1 others3c_0_2 bA aA mA lA kA eA dA fA cA gA hA iA jA:=by
  refine (congrFun (am _) _).trans <| (P7 l0 p1 i2 others3c_0_0 others3c_0_1 others3c_0_2 bA aA mA lA kA eA dA fA cA gA hA iA jA (hid ct3) (hid (ct5 (hid ct3) KL4))).trans ?_
  show _=sh7 l0 p1 i2 others3c_0_0 others3c_0_1 others3c_0_2 bA aA mA lA kA eA dA fA cA gA hA iA jA (f5 k4)
  simp only [T5 KL4 k4 h4]
theorem T6 (KL4:ae U El) (k4:Y4) (h4:∀ l0 p1 i2 others3c_0_0 others3c_0_1 others3c_0_2 bA aA lA kA eA dA fA cA gA hA iA jA,KL4 (fr4 l0 p1 i2 others3c_0_0 others3c_0_1 others3c_0_2 bA aA lA kA eA dA fA cA gA hA iA jA)=k4 l0 p1 i2 others3c_0_0 others3c_0_1 others3c_0_2 bA aA lA kA eA dA fA cA gA hA iA jA) (l0 p1 i2 others3c_0_0 others3c_0_1 others3c_0_2 bA aA mA lA kA eA dA fA cA gA hA iA jA):(hid (ct6 (hid ct3) (hid (ct5 (hid ct3) KL4)))) (fr6 l0 p1 i2 others3c_0_0 others3c_0_1 others3c_0_2 bA aA mA lA kA eA dA fA cA gA hA iA jA)=f6 k4 l0 p1 i2 others3c_0_0 others3c_0_1 others3c_0_2 bA aA mA lA kA eA dA fA cA gA hA iA jA:=by
  refine (congrFun (am _) _).trans <| (P6 l0 p1 i2 others3c_0_0 others3c_0_1 others3c_0_2 bA aA mA lA kA eA dA fA cA gA hA iA jA (hid ct3) (hid (ct5 (hid ct3) KL4))).trans ?_
  show _=sh6 l0 p1 i2 others3c_0_0 others3c_0_1 others3c_0_2 bA aA mA lA kA eA dA fA cA gA hA iA jA (f7 k4)
  simp only [T7 KL4 k4 h4]
theorem T4:∀ (n:Nat),∀ l0 p1 i2 others3c_0_0 others3c_0_1 others3c_0_2 bA aA lA kA eA dA fA cA gA hA iA jA,it4 (hid ct3) n (fr4 l0 p1 i2 others3c_0_0 others3c_0_1 others3c_0_2 bA aA lA kA eA dA fA cA gA hA iA jA)=f4 n l0 p1 i2 others3c_0_0 others3c_0_1 others3c_0_2 bA aA lA kA eA dA fA cA gA hA iA jA:=by
  intro n
  induction n with
  | zero=>intros; rfl
  | succ n ih =>
    intro l0 p1 i2 others3c_0_0 others3c_0_1 others3c_0_2 bA aA lA kA eA dA fA cA gA hA iA jA
    refine (P4 l0 p1 i2 others3c_0_0 others3c_0_1 others3c_0_2 bA aA lA kA eA dA fA cA gA hA iA jA (hid ct3) (it4 (hid ct3) n)).trans ?_
    show _=sh4 l0 p1 i2 others3c_0_0 others3c_0_1 others3c_0_2 bA aA lA kA eA dA fA cA gA hA iA jA f3 (f5 (f4 n)) (f6 (f4 n))
    simp only [T3,T5 (it4 (hid ct3) n) (f4 n) ih,T6 (it4 (hid ct3) n) (f4 n) ih]
theorem H4 (l0 p1 i2 others3c_0_0 others3c_0_1 others3c_0_2 bA aA lA kA eA dA fA cA gA hA iA jA):hid (it4 (hid ct3) 100000) (fr4 l0 p1 i2 others3c_0_0 others3c_0_1 others3c_0_2 bA aA lA kA eA dA fA cA gA hA iA jA)=f4 100000 l0 p1 i2 others3c_0_0 others3c_0_1 others3c_0_2 bA aA lA kA eA dA fA cA gA hA iA jA:=(congrFun (am _) _).trans (T4 100000 l0 p1 i2 others3c_0_0 others3c_0_1 others3c_0_2 bA aA lA kA eA dA fA cA gA hA iA jA)
theorem T1 (l0 p1 i2 others3c_0_0 others3c_0_1 others3c_0_2 eA dA fA cA gA hA iA jA):(hid ct1) (fr1 l0 p1 i2 others3c_0_0 others3c_0_1 others3c_0_2 eA dA fA cA gA hA iA jA)=f1 l0 p1 i2 others3c_0_0 others3c_0_1 others3c_0_2 eA dA fA cA gA hA iA jA:=by
  refine (congrFun (am _) _).trans <| (P1 l0 p1 i2 others3c_0_0 others3c_0_1 others3c_0_2 eA dA fA cA gA hA iA jA).trans ?_
  show _=sh1 l0 p1 i2 others3c_0_0 others3c_0_1 others3c_0_2 eA dA fA cA gA hA iA jA (f4 100000)
  simp only [H4]
theorem T2:∀ (n:Nat),∀ l0 p1 i2 others3c_0_0 others3c_0_1 others3c_0_2 oA pA nA eA dA fA cA gA hA iA jA,it2 (hid ct1) n (fr2 l0 p1 i2 others3c_0_0 others3c_0_1 others3c_0_2 oA pA nA eA dA fA cA gA hA iA jA)=f2 n l0 p1 i2 others3c_0_0 others3c_0_1 others3c_0_2 oA pA nA eA dA fA cA gA hA iA jA:=by
  intro n
  induction n with
  | zero=>intros; rfl
  | succ n ih =>
    intro l0 p1 i2 others3c_0_0 others3c_0_1 others3c_0_2 oA pA nA eA dA fA cA gA hA iA jA
    refine (P2 l0 p1 i2 others3c_0_0 others3c_0_1 others3c_0_2 oA pA nA eA dA fA cA gA hA iA jA (hid ct1) (it2 (hid ct1) n)).trans ?_
    show _=sh2 l0 p1 i2 others3c_0_0 others3c_0_1 others3c_0_2 oA pA nA eA dA fA cA gA hA iA jA f1 (f2 n)
    simp only [T1,ih]
theorem H2 (l0 p1 i2 others3c_0_0 others3c_0_1 others3c_0_2 oA pA nA eA dA fA cA gA hA iA jA):hid (it2 (hid ct1) 100000) (fr2 l0 p1 i2 others3c_0_0 others3c_0_1 others3c_0_2 oA pA nA eA dA fA cA gA hA iA jA)=f2 100000 l0 p1 i2 others3c_0_0 others3c_0_1 others3c_0_2 oA pA nA eA dA fA cA gA hA iA jA:=(congrFun (am _) _).trans (T2 100000 l0 p1 i2 others3c_0_0 others3c_0_1 others3c_0_2 oA pA nA eA dA fA cA gA hA iA jA)
theorem T0 (l p i lw sl dn):ak X bd (.seq none .d (.seq none (.region [(10,9),(11,10)]) (.seq none .d (.seq (some nm1) (.seq none .d (.block (.loop nm2 .d))) (.seq none .d (.seq (some nm3) (.seq none .d (.block (.loop nm4 (.seq none .d (.seq none .d (.seq (some nm5) (.block (.seq none .d (.seq (some nm6) .d (.seq (some nm7) .d .d)))) .d)))))) .d)))))) (fr0 l p i lw sl dn) RR (fun _ _=>none) RR=f0 l p i lw sl dn:=by
  refine (P0 l p i lw sl dn).trans ?_
  show _=sh0 l p i lw sl dn (f2 100000)
  simp only [H2]
theorem run (l p i lw sl dn):bg X bd (.seq none .d (.seq none (.region [(10,9),(11,10)]) (.seq none .d (.seq (some nm1) (.seq none .d (.block (.loop nm2 .d))) (.seq none .d (.seq (some nm3) (.seq none .d (.block (.loop nm4 (.seq none .d (.seq none .d (.seq (some nm5) (.block (.seq none .d (.seq (some nm6) .d (.seq (some nm7) .d .d)))) .d)))))) .d)))))) nmR [8] [] [(.lst .work l),(.lst .slot p),(.int .i64 i),(.fn 75 [] [(.pcs [(.pcs [(.lst .work lw),(.lst .slot sl),(.lst .bool dn)] 0)] 0)])]=f0 l p i lw sl dn:=T0 l p i lw sl dn
theorem r5 (l : List Work) (p : List Slot) (lw : List Work) (sl : List Slot) (dn : List Bool) (i : Nat) (h : FF l p i) (hdn : dn.length = l.length) (h0 : 0 ≤ (List.getD p i d_slot).ss) (h9 : (List.getD p i d_slot).ss ≤ 1000000) (b0 : List UInt8) (b2 b4 : List Int) (b5 b6 : Int) : ∀ (n k : Nat) (c t : Bool), l.length < n + k → k ≤ l.length → f4 n l p (i : Int) lw sl dn c t (Int.ofNat l.length) (k : Int) b0 (List.getD l i aa).wh b2 (List.getD l i aa).ws b4 b5 b6 (List.getD p i d_slot) = f3 (c || dY (fM l p dn i) (l.length - k) k) (t || dY (fN l p dn i) (l.length - k) k) := by
  intro n
  induction n with
  | zero=>intro k c t h1 h2; omega
  | succ n ih =>
    intro k c t h1 h2
    have hn:=h.n
    show sh4 l p (i:Int) lw sl dn c t (Int.ofNat l.length) (k:Int) b0 (List.getD l i aa).wh b2 (List.getD l i aa).ws b4 b5 b6 (List.getD p i d_slot) f3 (f5 (f4 n)) (f6 (f4 n))=_
    unfold sh4
    by_cases hk:k < l.length
    · have hkp : k < p.length := by rw [h.lp]; exact hk
      obtain ⟨a1,a2⟩:=h.wh i h.hi
      obtain ⟨a3,a4⟩:=h.wh k hk
      have e5:∀ c t:Bool,f5 (f4 n) l p (i:Int) lw sl dn c t (Int.ofNat l.length) (k:Int) b0 (List.getD l i aa).wh b2 (List.getD l i aa).ws b4 b5 b6 (List.getD p i d_slot)=f3 (c||dY (fM l p dn i) (l.length - (k+1)) (k+1)) (t||dY (fN l p dn i) (l.length - (k+1)) (k+1)):=fun c t=>by
        show f4 n l p (i:Int) lw sl dn c t (Int.ofNat l.length) (IntKind.wrap .i64 ((k:Int)+1)) b0 (List.getD l i aa).wh b2 (List.getD l i aa).ws b4 b5 b6 (List.getD p i d_slot)=_
        rw [bo k (by omega)]
        exact ih (k+1) c t (by omega) hk
      have e7:∀ c t:Bool,f7 (f4 n) l p (i:Int) lw sl dn c t (k:Int) (Int.ofNat l.length) (k:Int) b0 (List.getD l i aa).wh b2 (List.getD l i aa).ws b4 b5 b6 (List.getD p i d_slot)=f3 (c||dY (fM l p dn i) (l.length - (k+1)) (k+1)) ((t||(!((List.getD l i aa).ws == ([]:List UInt8))&&((List.getD l k aa).ws == (List.getD l i aa).ws)))||dY (fN l p dn i) (l.length - (k+1)) (k+1)):=fun c t=>by
        show sh7 l p (i:Int) lw sl dn c t (k:Int) (Int.ofNat l.length) (k:Int) b0 (List.getD l i aa).wh b2 (List.getD l i aa).ws b4 b5 b6 (List.getD p i d_slot) (f5 (f4 n))=_
        unfold sh7
        rw [aZ hk,ac,e5,e5,e5]
        cases t<;>cases ((List.getD l i aa).ws == ([]:List UInt8))<;>rfl
      have e6:f6 (f4 n) l p (i:Int) lw sl dn c t (k:Int) (Int.ofNat l.length) (k:Int) b0 (List.getD l i aa).wh b2 (List.getD l i aa).ws b4 b5 b6 (List.getD p i d_slot)=f3 ((c||((List.getD p k d_slot).sc == (List.getD p i d_slot).sc))||dY (fM l p dn i) (l.length - (k+1)) (k+1)) ((t||(!((List.getD l i aa).ws == ([]:List UInt8))&&((List.getD l k aa).ws == (List.getD l i aa).ws)))||dY (fN l p dn i) (l.length - (k+1)) (k+1)):=by
        show sh6 l p (i:Int) lw sl dn c t (k:Int) (Int.ofNat l.length) (k:Int) b0 (List.getD l i aa).wh b2 (List.getD l i aa).ws b4 b5 b6 (List.getD p i d_slot) (f7 (f4 n))=_
        unfold sh6
        rw [aZ hkp,ac,e7,e7]
        cases c<;>rfl
      rw [bw (by simp; omega),aZ hk,aZ hkp,aZ (show k < dn.length by omega),ac,e5,e6,bU (by omega) (by omega),bU (by omega) (by omega),show l.length - k=(l.length - (k+1))+1 by omega]
      simp only [dY,fM,fN,jI,jJ,ml]
      generalize dY (fM l p dn i) (l.length - (k+1)) (k+1)=X
      generalize dY (fN l p dn i) (l.length - (k+1)) (k+1)=Y
      simp only [Bool.or_assoc]
      cases ((k:Int) == (i:Int))<;>cases List.getD dn k d_bool<;>cases ile ((List.getD p i d_slot).ss+(List.getD l i aa).wh) (List.getD p k d_slot).ss<;>cases ile (List.getD p k d_slot).ss ((List.getD p i d_slot).ss - (List.getD l k aa).wh)<;>rfl
    · have : k = l.length := by omega
      subst this
      rw [bp (by simp),Nat.sub_self]
      simp only [dY,Bool.or_false]
      rfl
theorem gJ (l:List Work) (p:List Slot) (lw:List Work) (sl:List Slot) (dn:List Bool) (i:Nat) (h:FF l p i) (h0:0≤(List.getD p i d_slot).ss) (h9:(List.getD p i d_slot).ss≤1000000) (b0:List UInt8) (b1:Int) (b2:List Int) (b3:List UInt8) (b4:List Int) (b5 b6:Int):∀ (n j:Nat),(List.getD l i aa).wa.length < n+j→j≤(List.getD l i aa).wa.length→f2 n l p (i:Int) lw sl dn (List.getD l i aa).wa (Int.ofNat (List.getD l i aa).wa.length) (j:Int) b0 b1 b2 b3 b4 b5 b6 (List.getD p i d_slot)=bif List.any ((List.getD l i aa).wa.drop j) (iJ l p i) then dK 17 else f1 l p (i:Int) lw sl dn b0 b1 b2 b3 b4 b5 b6 (List.getD p i d_slot):=by
  have hwa:=h.wa
  have hin:=h.ain
  revert hwa hin
  generalize (List.getD l i aa).wa=wa
  intro hwa hin n
  induction n with
  | zero=>intro j h1 h2; omega
  | succ n ih =>
    intro j h1 h2
    show sh2 l p (i:Int) lw sl dn wa (Int.ofNat wa.length) (j:Int) b0 b1 b2 b3 b4 b5 b6 (List.getD p i d_slot) f1 (f2 n)=_
    unfold sh2
    by_cases hj:j < wa.length
    · have hb := hin _ (List.getElem_mem hj)
      have hb2:=hb
      simp only [inb,Bool.and_eq_true] at hb2
      have q1:=b7 hb2.1; have q2:=dJ hb2.2
      obtain ⟨a3,a4⟩:=h.wh (Int.toNat wa[j]) (by omega)
      rw [bw (by simp; omega),aZ hj,ac,al hj,hb,h.lp,hb,bo j (by omega),ih (j+1) (by omega) hj,bl hj,List.any_cons,bU (by omega) (by omega)]
      show ah (iJ l p i wa[j]) _ _=_
      cases iJ l p i wa[j]<;>rfl
    · have : j = wa.length := by omega
      subst this
      rw [bp (by simp),List.drop_length]
      rfl
theorem f0_eq (l:List Work) (p:List Slot) (i:Int) (lw:List Work) (sl:List Slot) (dn:List Bool) (h:okD l p dn i=true):f0 l p i lw sl dn=dK (ia l p dn i):=by
  simp only [okD,Bool.and_eq_true] at h
  obtain ⟨q,rfl,hf⟩:=kZ h.1
  have hdn:=Nat.eq_of_beq_eq_true h.2
  have hn:=hf.n
  have hqp:q < p.length:=by rw [hf.lp]; exact hf.hi
  show sh0 l p (q:Int) lw sl dn (f2 100000)=_
  unfold sh0 ia ci
  rw [aZ hf.hi,aZ hqp,ac,bC hf.wc]
  cases ((List.getD p q d_slot).sw != (q:Int))
  case true=>rfl
  cases List.any (List.getD l q aa).wc (bc (List.getD p q d_slot).sc)
  · rfl
  by_cases hs:0≤(List.getD p q d_slot).ss∧(List.getD p q d_slot).ss≤1000000
  · have e : ∀ b0 b1 b2 b3 b4 b5 b6, f2 100000 l p (q : Int) lw sl dn (List.getD l q aa).wa (Int.ofNat (List.getD l q aa).wa.length) 0 b0 b1 b2 b3 b4 b5 b6 (List.getD p q d_slot) = bif List.any (List.getD l q aa).wa (iJ l p q) then dK 17 else f1 l p (q : Int) lw sl dn b0 b1 b2 b3 b4 b5 b6 (List.getD p q d_slot) := fun b0 b1 b2 b3 b4 b5 b6 => gJ l p lw sl dn q hf hs.1 hs.2 b0 b1 b2 b3 b4 b5 b6 100000 0 (by have := hf.wa; omega) (by omega)
    rw [bD hs.1,bD hs.2,e]
    cases List.any (List.getD l q aa).wa (iJ l p q)
    case true=>rfl
    show f4 100000 l p (q:Int) lw sl dn false false (Int.ofNat l.length) ((0:Nat):Int) _ (List.getD l q aa).wh _ (List.getD l q aa).ws _ _ _ (List.getD p q d_slot)=_
    rw [r5 l p lw sl dn q hf hdn hs.1 hs.2 _ _ _ _ _ 100000 0 false false (by omega) (by omega),Nat.sub_zero]
    cases dY (fM l p dn q) l.length 0<;>cases dY (fN l p dn q) l.length 0<;>rfl
  · have : (ile 0 (List.getD p q d_slot).ss && ile (List.getD p q d_slot).ss 1000000) = false := by
      by_cases h1:0≤(List.getD p q d_slot).ss
      · rw [gC (show ¬ (List.getD p q d_slot).ss≤1000000 by omega),Bool.and_false]
      · rw [gC h1,Bool.false_and]
    rw [this]
    rfl
theorem ok:CtxOk Try.prog X:=aU tab (spC hasI.spOk (spC within.spOk (spC st1.spOk spN))) dpN
theorem okM:MOk Try.prog X:=fun g sp h=>by cases h
theorem spec (l:List Work) (p:List Slot) (i:Int) (lw:List Work) (sl:List Slot) (dn:List Bool) (h:(okD l p dn i)=true):az Try.prog E 32 [(.lst .work l),(.lst .slot p),(.int .i64 i),(.fn 75 [] [(.pcs [(.pcs [(.lst .work lw),(.lst .slot sl),(.lst .bool dn)] 0)] 0)])] (.int .i64 (ia l p dn i)) [] :=
  aq ok okM Try.call32 Try.func32 (by kernel_rfl) (by kernel_rfl) (by kernel_rfl) (by show 4≤138; decide) (by decide) (by rfl) ((run l p i lw sl dn).trans (f0_eq l p i lw sl dn h))
noncomputable def sp:Sp U El:=fun args k=>match args with
  | [.lst .work l,.lst .slot p,.int .i64 i,.fn 75 [] [.pcs [.pcs [.lst .work lw,.lst .slot sl,.lst .bool dn] 0] 0]]=>chk (okD l p dn i) (k (.int .i64 (ia l p dn i)) [])
  | _=>none
theorem spOk:SpOk Try.prog E 32 sp where
  det:=fun vs=>by
    unfold sp
    split
    · exact bz _ _ _
    · exact ⟨none,fun _=>rfl⟩
  ok:=fun vs k r h=>by
    unfold sp at h
    split at h
    · obtain ⟨h1, h2⟩ := ab h
      exact ⟨_,_,spec _ _ _ _ _ _ h1,h2⟩
    · cases h
end faultDr
end Go.Proofs.Ythdklallcljhlaa
