/- Whether rules hold at levels. -/
import Derived.Test.YthdimnlkcgchoaaGreatVL
import Derived.Test.YthdimnlkcgchoaaGreatPM
namespace Go.Proofs.YthdimnlkcgchoaaGreat
set_option linter.unusedSectionVars false
set_option linter.unusedSimpArgs false
set_option linter.unusedVariables false
set_option maxRecDepth 100000
noncomputable def iI (ns:List (List UInt8)) (v:List Int) (c:Cnd):Bool := !((ilt (List.getD v (Int.toNat (aN (fun x=>x == c.cn) 0 ns)) 0) c.cl) == c.cb)
noncomputable def du (nds:List Node) (v:List Int) (c:Cnd):Bool:=iI (nds.map Node.nn) v c
noncomputable def jn (ns:List (List UInt8)) (v:List Int) (c:Cnd):Bool:=inb (aN (fun x=>x == c.cn) 0 ns) v.length
noncomputable def bO (nds:List Node) (v:List Int) (c:Cnd):Bool:=nle nds.length 90000&&jn (nds.map Node.nn) v c
noncomputable def m3 (ns:List (List UInt8)) (v:List Int) (w:List Cnd):Bool := !(List.any w (iI ns v))
noncomputable def dv (nds:List Node) (v:List Int) (w:List Cnd):Bool:=m3 (nds.map Node.nn) v w
noncomputable def bl (nds:List Node) (v:List Int) (r:Rule):Bool:=nle r.rw.length 90000&&List.all r.rw (bO nds v)
noncomputable def dy (s:List UInt8) (nds:List Node) (v:List Int) (r:Rule):Bool:=(r.rl == s)&&dv nds v r.rw
noncomputable def dz (l:List Rule) (s:List UInt8) (nds:List Node) (v:List Int):Bool:=List.any l (dy s nds v)
noncomputable def dC (l:List Rule) (kk:Int) (nds:List Node) (v:List Int):Bool:=dv nds v (List.getD l (Int.toNat kk) az).rw
def ke {α:Type} (p:Nat→α→Bool):Nat→List α→Bool
  | _,[]=>false
  | i,x :: l=>p i x||ke p (i+1) l
noncomputable def m4 (l:List Rule) (kk:Int) (nds:List Node) (v:List Int) (i:Nat) (r:Rule):Bool :=
  ((i:Int) != kk)&&((r.rl == (List.getD l (Int.toNat kk) az).rl)&&((r.rs == (List.getD l (Int.toNat kk) az).rs)&&dv nds v r.rw))
noncomputable def ia (l:List Rule) (kk:Int) (nds:List Node) (v:List Int):Bool:=ke (m4 l kk nds v) 0 l
namespace ho1
noncomputable def bd:Code:=(Tryz.f120.body).getD .skip
noncomputable def X:Ctx U El:=⟨E,tds,zeros,eqs,aC [(109,ho11X.sp)],100000,20,ap [],fun _=>none⟩
noncomputable def nmR:Norm U:=⟨[],[4],[],[],[],[],[]⟩
noncomputable def RR:ab U El:=fun st=>aE nmR st (aD [4] [])
noncomputable def fr0 (x:Cnd) (nds:List Node) (lks:List Lnk) (v:List Int):St U El:=⟨[(0,(.agg [(.str x.cn),(.bool x.cb),(.int .i64 x.cl)])),(1,(.pcs [(.lst .node nds),(.lst .link lks)] 0)),(2,(.pcs [(.lst .int v)] 0))],[]⟩
noncomputable def sh0 (x:Cnd) (nds:List Node) (lks:List Lnk) (v:List Int):R :=
  chk (nle (List.length nds) 90000) (chk (inb (aN (bk x.cn) 0 nds) (List.length v)) (some ((.bool (!((ilt (List.getD v (Int.toNat (aN (bk x.cn) 0 nds)) aL) x.cl) == x.cb))),[])))
theorem P0 (x nds lks v):ac X (cdp [] bd) .d (fr0 x nds lks v) RR (fun _ _=>none) RR=sh0 x nds lks v:=by kernel_rfl
noncomputable def f0 (x:Cnd) (nds:List Node) (lks:List Lnk) (v:List Int):R:=sh0 x nds lks v
theorem T0 (x nds lks v):ac X bd .d (fr0 x nds lks v) RR (fun _ _=>none) RR=f0 x nds lks v:=by
  refine (P0 x nds lks v).trans ?_
  show _=sh0 x nds lks v
  rfl
theorem run (x nds lks v):aJ X bd .d nmR [4] [] [(.agg [(.str x.cn),(.bool x.cb),(.int .i64 x.cl)]),(.pcs [(.lst .node nds),(.lst .link lks)] 0),(.pcs [(.lst .int v)] 0)]=f0 x nds lks v:=T0 x nds lks v
theorem f0_eq (x:Cnd) (nds:List Node) (lks:List Lnk) (v:List Int) (h:bO nds v x=true):f0 x nds lks v=aH (du nds v x):=by
  simp only [bO,jn,Bool.and_eq_true] at h
  show sh0 x nds lks v=_
  unfold sh0 du iI
  rw [← iZ,h.1,h.2]
  rfl
theorem ok:CtxOk Tryz.prog X:=aI tab (spC ho11X.spOk spN) dpN
theorem okM:MOk Tryz.prog X:=fun g sp h=>by cases h
theorem spec (x:Cnd) (nds:List Node) (lks:List Lnk) (v:List Int) (h:((bO nds v) x)=true):aj Tryz.prog E 120 [(.agg [(.str x.cn),(.bool x.cb),(.int .i64 x.cl)]),(.pcs [(.lst .node nds),(.lst .link lks)] 0),(.pcs [(.lst .int v)] 0)] (.bool ((du nds v) x)) [] :=
  ae ok okM Tryz.call120 Tryz.func120 (by kernel_rfl) (by kernel_rfl) (by kernel_rfl) (by show 3≤20; decide) (by decide) (by rfl) ((run x nds lks v).trans (f0_eq x nds lks v h))
noncomputable def sp:Sp U El:=fun args k=>match args with
  | [.agg [.str x_cn,.bool x_cb,.int .i64 x_cl],.pcs [.lst .node nds,.lst .link lks] 0,.pcs [.lst .int v] 0]=>chk ((bO nds v) (⟨x_cn,x_cb,x_cl⟩:Cnd)) (k (.bool ((du nds v) (⟨x_cn,x_cb,x_cl⟩:Cnd))) [])
  | _=>none
theorem spOk:SpOk Tryz.prog E 120 sp where
  det:=fun vs=>by
    unfold sp
    split
    · exact aY _ _ _
    · exact ⟨none,fun _=>rfl⟩
  ok:=fun vs k r h=>by
    unfold sp at h
    split at h
    · obtain ⟨h1, h2⟩ := af h
      exact ⟨_,_,spec ⟨_,_,_⟩ _ _ _ h1,h2⟩
    · cases h
end ho1
namespace ho1X
noncomputable def bd:Code:=(Tryz.f130.body).getD .skip
noncomputable def X:Ctx U El:=⟨E,tds,zeros,eqs,aC [(120,ho1.sp)],100000,19,ap [],fun _=>none⟩
noncomputable def nmR:Norm U:=⟨[],[4],[],[],[],[],[]⟩
noncomputable def RR:ab U El:=fun st=>aE nmR st (aD [4] [])
noncomputable def nm1:Norm U:=⟨[],[],[],[],[],[],[]⟩
noncomputable def nm2:Norm U:=⟨[],[0,1,7,8],[],[],[],[],[]⟩
abbrev Y1:=R
abbrev Y2:=(List Cnd)→(List Node)→(List Lnk)→(List Int)→Int→Int→R
noncomputable def fr0 (l:List Cnd) (nds:List Node) (lks:List Lnk) (v:List Int):St U El:=⟨[(0,(.lst .cnd l)),(1,(.fn 120 [] [(.pcs [(.lst .node nds),(.lst .link lks)] 0),(.pcs [(.lst .int v)] 0)]))],[]⟩
noncomputable def fr1:St U El:=⟨[],[]⟩
noncomputable def fr2 (s0:List Cnd) (f1c_0:List Node) (f1c_1:List Lnk) (f1c_0_1:List Int) (x7:Int) (x8:Int):St U El:=⟨[(0,(.lst .cnd s0)),(1,(.fn 120 [] [(.pcs [(.lst .node f1c_0),(.lst .link f1c_1)] 0),(.pcs [(.lst .int f1c_0_1)] 0)])),(7,(.int .i64 x7)),(8,(.int .i64 x8))],[]⟩
noncomputable def sh0 (l:List Cnd) (nds:List Node) (lks:List Lnk) (v:List Int) (k2:Y2):R :=
  k2 l nds lks v (Int.ofNat (List.length l)) (0:Int)
noncomputable def sh1:R :=
  some ((.int .i64 (-1:Int)),[])
noncomputable def sh2 (s0:List Cnd) (f1c_0:List Node) (f1c_1:List Lnk) (f1c_0_1:List Int) (x7:Int) (x8:Int) (k1:Y1) (k2:Y2):R :=
  aa (ilt x8 x7) (chk (inb x8 (List.length s0)) (chk ((bO f1c_0 f1c_0_1) (List.getD s0 (Int.toNat x8) cI)) (aa ((du f1c_0 f1c_0_1) (List.getD s0 (Int.toNat x8) cI)) (some ((.int .i64 x8),[])) (k2 s0 f1c_0 f1c_1 f1c_0_1 x7 (IntKind.wrap .i64 (x8+(1:Int))))))) (k1)
noncomputable def it2 (Kb1:ab U El) (n:Nat):ab U El:=bw nm2 (fun st' K'=>ac X (cdp [1,0,1,0,0] bd) .d st' K' (aq 0 (ah nm1 Kb1) (fun _ _=>none)) RR) n
noncomputable def ct1:ab U El:=fun st=>ac X (cdp [1,1] bd) .d st RR (fun _ _=>none) RR
theorem P0 (l nds lks v):ac X (cdp [] bd) (.seq none .d (.seq (some nm1) (.seq none .d (.block (.loop nm2 .d))) .d)) (fr0 l nds lks v) RR (fun _ _=>none) RR=sh0 l nds lks v (fun y0 y1 y2 y3 y4 y5=>(hid (it2 (hid ct1) 100000)) (fr2 y0 y1 y2 y3 y4 y5)):=by kernel_rfl
theorem P1:ct1 (fr1)=sh1:=by kernel_rfl
theorem P2 (s0 f1c_0 f1c_1 f1c_0_1 x7 x8) (Kb1 Kb2:ab U El):ac X (cdp [1,0,1,0,0] bd) .d (fr2 s0 f1c_0 f1c_1 f1c_0_1 x7 x8) (ah nm2 Kb2) (aq 0 (ah nm1 Kb1) (fun _ _=>none)) RR=sh2 s0 f1c_0 f1c_1 f1c_0_1 x7 x8 (Kb1 (fr1)) (fun y0 y1 y2 y3 y4 y5=>Kb2 (fr2 y0 y1 y2 y3 y4 y5)):=by kernel_rfl
noncomputable def f1:R:=sh1
noncomputable def f2:Nat→Y2
  | 0=>fun _ _ _ _ _ _=>none
  | n+1=>fun s0 f1c_0 f1c_1 f1c_0_1 x7 x8=>sh2 s0 f1c_0 f1c_1 f1c_0_1 x7 x8 f1 (f2 n)
noncomputable def f0 (l:List Cnd) (nds:List Node) (lks:List Lnk) (v:List Int):R:=sh0 l nds lks v (f2 100000)
theorem T1:(hid ct1) (fr1)=f1:=by
  refine (congrFun (ai _) _).trans <| (P1).trans ?_
  show _=sh1
  rfl
theorem T2:∀ (n:Nat),∀ s0 f1c_0 f1c_1 f1c_0_1 x7 x8,it2 (hid ct1) n (fr2 s0 f1c_0 f1c_1 f1c_0_1 x7 x8)=f2 n s0 f1c_0 f1c_1 f1c_0_1 x7 x8:=by
  intro n
  induction n with
  | zero=>intros; rfl
  | succ n ih =>
    intro s0 f1c_0 f1c_1 f1c_0_1 x7 x8
    refine (P2 s0 f1c_0 f1c_1 f1c_0_1 x7 x8 (hid ct1) (it2 (hid ct1) n)).trans ?_
    show _=sh2 s0 f1c_0 f1c_1 f1c_0_1 x7 x8 f1 (f2 n)
    simp only [T1,ih]
theorem H2 (s0 f1c_0 f1c_1 f1c_0_1 x7 x8):hid (it2 (hid ct1) 100000) (fr2 s0 f1c_0 f1c_1 f1c_0_1 x7 x8)=f2 100000 s0 f1c_0 f1c_1 f1c_0_1 x7 x8:=(congrFun (ai _) _).trans (T2 100000 s0 f1c_0 f1c_1 f1c_0_1 x7 x8)
theorem T0 (l nds lks v):ac X bd (.seq none .d (.seq (some nm1) (.seq none .d (.block (.loop nm2 .d))) .d)) (fr0 l nds lks v) RR (fun _ _=>none) RR=f0 l nds lks v:=by
  refine (P0 l nds lks v).trans ?_
  show _=sh0 l nds lks v (f2 100000)
  simp only [H2]
theorem run (l nds lks v):aJ X bd (.seq none .d (.seq (some nm1) (.seq none .d (.block (.loop nm2 .d))) .d)) nmR [4] [] [(.lst .cnd l),(.fn 120 [] [(.pcs [(.lst .node nds),(.lst .link lks)] 0),(.pcs [(.lst .int v)] 0)])]=f0 l nds lks v:=T0 l nds lks v
theorem f0_eq (l:List Cnd) (nds:List Node) (lks:List Lnk) (v:List Int) (h:((nle (List.length l) 90000&&List.all l (bO nds v)))=true):f0 l nds lks v=bH (aN (du nds v) 0 l):=by
  simp only [Bool.and_eq_true] at h
  have ha:=List.all_eq_true.1 h.2
  have hl:=bQ h.1
  refine (bu l (by omega) (fun n_ (_:Unit) i_=>f2 n_ l nds lks v (Int.ofNat l.length) i_) _ (fun _=>bH (-1)) (fun n_ u_ i_ hi_ => ?_) (fun n_ u_ => ?_) 100000 0 () (by omega) (by omega)).trans (bM (du nds v) bH l 0)
  · show sh2 l nds lks v (Int.ofNat l.length) i_ f1 (f2 n_) = _
    unfold sh2
    rw [aX (by simp; omega),aW hi_,ak,ar hi_,ha l[i_] (List.getElem_mem hi_)]
    rfl
  · show sh2 l nds lks v (Int.ofNat l.length) (l.length : Int) f1 (f2 n_) = _
    unfold sh2
    rw [aR (by simp)]
    rfl
theorem ok:CtxOk Tryz.prog X:=aI tab (spC ho1.spOk spN) dpN
theorem okM:MOk Tryz.prog X:=fun g sp h=>by cases h
theorem spec (l:List Cnd) (nds:List Node) (lks:List Lnk) (v:List Int) (h:((nle (List.length l) 90000&&List.all l (bO nds v)))=true):aj Tryz.prog E 130 [(.lst .cnd l),(.fn 120 [] [(.pcs [(.lst .node nds),(.lst .link lks)] 0),(.pcs [(.lst .int v)] 0)])] (.int .i64 (aN (du nds v) 0 l)) [] :=
  ae ok okM Tryz.call130 Tryz.func130 (by kernel_rfl) (by kernel_rfl) (by kernel_rfl) (by show 2≤19; decide) (by decide) (by rfl) ((run l nds lks v).trans (f0_eq l nds lks v h))
noncomputable def sp:Sp U El:=fun args k=>match args with
  | [.lst .cnd l,.fn 120 [] [.pcs [.lst .node nds,.lst .link lks] 0,.pcs [.lst .int v] 0]]=>chk ((nle (List.length l) 90000&&List.all l (bO nds v))) (k (.int .i64 (aN (du nds v) 0 l)) [])
  | _=>none
theorem spOk:SpOk Tryz.prog E 130 sp where
  det:=fun vs=>by
    unfold sp
    split
    · exact aY _ _ _
    · exact ⟨none,fun _=>rfl⟩
  ok:=fun vs k r h=>by
    unfold sp at h
    split at h
    · obtain ⟨h1, h2⟩ := af h
      exact ⟨_,_,spec _ _ _ _ h1,h2⟩
    · cases h
end ho1X
namespace ho1C
noncomputable def bd:Code:=(Tryz.f88.body).getD .skip
noncomputable def X:Ctx U El:=⟨E,tds,zeros,eqs,aC [(130,ho1X.sp)],100000,9,ap [],fun _=>none⟩
noncomputable def nmR:Norm U:=⟨[],[4],[],[],[],[],[]⟩
noncomputable def RR:ab U El:=fun st=>aE nmR st (aD [4] [])
noncomputable def fr0 (l:List Cnd) (nds:List Node) (lks:List Lnk) (v:List Int):St U El:=⟨[(0,(.lst .cnd l)),(1,(.fn 120 [] [(.pcs [(.lst .node nds),(.lst .link lks)] 0),(.pcs [(.lst .int v)] 0)]))],[]⟩
noncomputable def sh0 (l:List Cnd) (nds:List Node) (lks:List Lnk) (v:List Int):R :=
  chk ((nle (List.length l) 90000&&List.all l (bO nds v))) (some ((.bool (ile (0:Int) (aN (du nds v) 0 l))),[]))
theorem P0 (l nds lks v):ac X (cdp [] bd) .d (fr0 l nds lks v) RR (fun _ _=>none) RR=sh0 l nds lks v:=by kernel_rfl
noncomputable def f0 (l:List Cnd) (nds:List Node) (lks:List Lnk) (v:List Int):R:=sh0 l nds lks v
theorem T0 (l nds lks v):ac X bd .d (fr0 l nds lks v) RR (fun _ _=>none) RR=f0 l nds lks v:=by
  refine (P0 l nds lks v).trans ?_
  show _=sh0 l nds lks v
  rfl
theorem run (l nds lks v):aJ X bd .d nmR [4] [] [(.lst .cnd l),(.fn 120 [] [(.pcs [(.lst .node nds),(.lst .link lks)] 0),(.pcs [(.lst .int v)] 0)])]=f0 l nds lks v:=T0 l nds lks v
theorem f0_eq (l:List Cnd) (nds:List Node) (lks:List Lnk) (v:List Int) (h:((nle (List.length l) 90000&&List.all l (bO nds v)))=true):f0 l nds lks v=aH (List.any l (du nds v)):=by
  show chk _ (aH _)=_
  rw [h,bL,b8]
theorem ok:CtxOk Tryz.prog X:=aI tab (spC ho1X.spOk spN) dpN
theorem okM:MOk Tryz.prog X:=fun g sp h=>by cases h
theorem spec (l:List Cnd) (nds:List Node) (lks:List Lnk) (v:List Int) (h:((nle (List.length l) 90000&&List.all l (bO nds v)))=true):aj Tryz.prog E 88 [(.lst .cnd l),(.fn 120 [] [(.pcs [(.lst .node nds),(.lst .link lks)] 0),(.pcs [(.lst .int v)] 0)])] (.bool (List.any l (du nds v))) [] :=
  ae ok okM Tryz.call88 Tryz.func88 (by kernel_rfl) (by kernel_rfl) (by kernel_rfl) (by show 2≤9; decide) (by decide) (by rfl) ((run l nds lks v).trans (f0_eq l nds lks v h))
noncomputable def sp:Sp U El:=fun args k=>match args with
  | [.lst .cnd l,.fn 120 [] [.pcs [.lst .node nds,.lst .link lks] 0,.pcs [.lst .int v] 0]]=>chk ((nle (List.length l) 90000&&List.all l (bO nds v))) (k (.bool (List.any l (du nds v))) [])
  | _=>none
theorem spOk:SpOk Tryz.prog E 88 sp where
  det:=fun vs=>by
    unfold sp
    split
    · exact aY _ _ _
    · exact ⟨none,fun _=>rfl⟩
  ok:=fun vs k r h=>by
    unfold sp at h
    split at h
    · obtain ⟨h1, h2⟩ := af h
      exact ⟨_,_,spec _ _ _ _ h1,h2⟩
    · cases h
end ho1C
namespace holds
noncomputable def bd:Code:=(Tryz.f74.body).getD .skip
noncomputable def X:Ctx U El:=⟨E,tds,zeros,eqs,aC [(88,ho1C.sp)],100000,12,ap [],fun _=>none⟩
noncomputable def nmR:Norm U:=⟨[],[6],[],[],[],[],[]⟩
noncomputable def RR:ab U El:=fun st=>aE nmR st (aD [6] [])
noncomputable def fr0 (r:Rule) (n:Net) (v:List Int):St U El:=⟨[(0,(.agg [(.str r.rn),(.lst .cnd r.rw),(.str r.rl),(.int .i64 r.rs)])),(1,(.agg [(.lst .node n.nds),(.lst .link n.lks)])),(2,(.lst .int v))],[]⟩
noncomputable def sh0 (r:Rule) (n:Net) (v:List Int):R :=
  chk ((nle (List.length r.rw) 90000&&List.all r.rw (bO n.nds v))) (some ((.bool (!(List.any r.rw (du n.nds v)))),[]))
theorem P0 (r n v):ac X (cdp [] bd) .d (fr0 r n v) RR (fun _ _=>none) RR=sh0 r n v:=by kernel_rfl
noncomputable def f0 (r:Rule) (n:Net) (v:List Int):R:=sh0 r n v
theorem T0 (r n v):ac X bd .d (fr0 r n v) RR (fun _ _=>none) RR=f0 r n v:=by
  refine (P0 r n v).trans ?_
  show _=sh0 r n v
  rfl
theorem run (r n v):aJ X bd .d nmR [6] [] [(.agg [(.str r.rn),(.lst .cnd r.rw),(.str r.rl),(.int .i64 r.rs)]),(.agg [(.lst .node n.nds),(.lst .link n.lks)]),(.lst .int v)]=f0 r n v:=T0 r n v
theorem f0_eq (r:Rule) (n:Net) (v:List Int) (h:(nle (List.length (Rule.rw r)) 90000&&List.all (Rule.rw r) (bO (Net.nds n) v))=true):f0 r n v=aH (dv n.nds v r.rw):=by
  show sh0 r n v=_
  unfold sh0
  rw [h]
  rfl
theorem ok:CtxOk Tryz.prog X:=aI tab (spC ho1C.spOk spN) dpN
theorem okM:MOk Tryz.prog X:=fun g sp h=>by cases h
theorem spec (r:Rule) (n:Net) (v:List Int) (h:((nle (List.length (Rule.rw r)) 90000&&List.all (Rule.rw r) (bO (Net.nds n) v)))=true):aj Tryz.prog E 74 [(.agg [(.str r.rn),(.lst .cnd r.rw),(.str r.rl),(.int .i64 r.rs)]),(.agg [(.lst .node n.nds),(.lst .link n.lks)]),(.lst .int v)] (.bool (dv (Net.nds n) v (Rule.rw r))) [] :=
  ae ok okM Tryz.call74 Tryz.func74 (by kernel_rfl) (by kernel_rfl) (by kernel_rfl) (by show 3≤12; decide) (by decide) (by rfl) ((run r n v).trans (f0_eq r n v h))
noncomputable def sp:Sp U El:=fun args k=>match args with
  | [.agg [.str r_rn,.lst .cnd r_rw,.str r_rl,.int .i64 r_rs],.agg [.lst .node n_nds,.lst .link n_lks],.lst .int v]=>chk ((nle (List.length (Rule.rw (⟨r_rn,r_rw,r_rl,r_rs⟩:Rule))) 90000&&List.all (Rule.rw (⟨r_rn,r_rw,r_rl,r_rs⟩:Rule)) (bO (Net.nds (⟨n_nds,n_lks⟩:Net)) v))) (k (.bool (dv (Net.nds (⟨n_nds,n_lks⟩:Net)) v (Rule.rw (⟨r_rn,r_rw,r_rl,r_rs⟩:Rule)))) [])
  | _=>none
theorem spOk:SpOk Tryz.prog E 74 sp where
  det:=fun vs=>by
    unfold sp
    split
    · exact aY _ _ _
    · exact ⟨none,fun _=>rfl⟩
  ok:=fun vs k r h=>by
    unfold sp at h
    split at h
    · obtain ⟨h1, h2⟩ := af h
      exact ⟨_,_,spec ⟨_,_,_,_⟩ ⟨_,_⟩ _ h1,h2⟩
    · cases h
end holds
namespace cc11
noncomputable def bd:Code:=(Tryz.f73.body).getD .skip
noncomputable def X:Ctx U El:=⟨E,tds,zeros,eqs,aC [(74,holds.sp)],100000,16,ap [],fun _=>none⟩
noncomputable def nmR:Norm U:=⟨[],[5],[],[],[],[],[]⟩
noncomputable def RR:ab U El:=fun st=>aE nmR st (aD [5] [])
noncomputable def fr0 (x:Rule) (s:List UInt8) (nds:List Node) (lks:List Lnk) (v:List Int):St U El:=⟨[(0,(.agg [(.str x.rn),(.lst .cnd x.rw),(.str x.rl),(.int .i64 x.rs)])),(1,(.pcs [(.str s)] 0)),(2,(.pcs [(.lst .node nds),(.lst .link lks)] 0)),(3,(.pcs [(.lst .int v)] 0))],[]⟩
noncomputable def sh0 (x:Rule) (s:List UInt8) (nds:List Node) (lks:List Lnk) (v:List Int):R :=
  aa (x.rl == s) (chk ((nle (List.length (Rule.rw x)) 90000&&List.all (Rule.rw x) (bO (Net.nds (⟨nds,lks⟩:Net)) v))) (some ((.bool (dv (Net.nds (⟨nds,lks⟩:Net)) v (Rule.rw x))),[]))) (some ((.bool false),[]))
theorem P0 (x s nds lks v):ac X (cdp [] bd) .d (fr0 x s nds lks v) RR (fun _ _=>none) RR=sh0 x s nds lks v:=by kernel_rfl
noncomputable def f0 (x:Rule) (s:List UInt8) (nds:List Node) (lks:List Lnk) (v:List Int):R:=sh0 x s nds lks v
theorem T0 (x s nds lks v):ac X bd .d (fr0 x s nds lks v) RR (fun _ _=>none) RR=f0 x s nds lks v:=by
  refine (P0 x s nds lks v).trans ?_
  show _=sh0 x s nds lks v
  rfl
theorem run (x s nds lks v):aJ X bd .d nmR [5] [] [(.agg [(.str x.rn),(.lst .cnd x.rw),(.str x.rl),(.int .i64 x.rs)]),(.pcs [(.str s)] 0),(.pcs [(.lst .node nds),(.lst .link lks)] 0),(.pcs [(.lst .int v)] 0)]=f0 x s nds lks v:=T0 x s nds lks v
theorem f0_eq (x:Rule) (s:List UInt8) (nds:List Node) (lks:List Lnk) (v:List Int) (h:bl nds v x=true):f0 x s nds lks v=aH (dy s nds v x):=by
  show sh0 x s nds lks v=_
  unfold sh0 dy
  have h':(nle (List.length x.rw) 90000&&List.all x.rw (bO nds v))=true:=h
  show aa (x.rl == s) (chk (nle (List.length x.rw) 90000&&List.all x.rw (bO nds v)) (aH (dv nds v x.rw))) (aH false)=_
  rw [h']
  exact cQ aH _ _
theorem ok:CtxOk Tryz.prog X:=aI tab (spC holds.spOk spN) dpN
theorem okM:MOk Tryz.prog X:=fun g sp h=>by cases h
theorem spec (x:Rule) (s:List UInt8) (nds:List Node) (lks:List Lnk) (v:List Int) (h:((bl nds v) x)=true):aj Tryz.prog E 73 [(.agg [(.str x.rn),(.lst .cnd x.rw),(.str x.rl),(.int .i64 x.rs)]),(.pcs [(.str s)] 0),(.pcs [(.lst .node nds),(.lst .link lks)] 0),(.pcs [(.lst .int v)] 0)] (.bool ((dy s nds v) x)) [] :=
  ae ok okM Tryz.call73 Tryz.func73 (by kernel_rfl) (by kernel_rfl) (by kernel_rfl) (by show 4≤16; decide) (by decide) (by rfl) ((run x s nds lks v).trans (f0_eq x s nds lks v h))
noncomputable def sp:Sp U El:=fun args k=>match args with
  | [.agg [.str x_rn,.lst .cnd x_rw,.str x_rl,.int .i64 x_rs],.pcs [.str s] 0,.pcs [.lst .node nds,.lst .link lks] 0,.pcs [.lst .int v] 0]=>chk ((bl nds v) (⟨x_rn,x_rw,x_rl,x_rs⟩:Rule)) (k (.bool ((dy s nds v) (⟨x_rn,x_rw,x_rl,x_rs⟩:Rule))) [])
  | _=>none
theorem spOk:SpOk Tryz.prog E 73 sp where
  det:=fun vs=>by
    unfold sp
    split
    · exact aY _ _ _
    · exact ⟨none,fun _=>rfl⟩
  ok:=fun vs k r h=>by
    unfold sp at h
    split at h
    · obtain ⟨h1, h2⟩ := af h
      exact ⟨_,_,spec ⟨_,_,_,_⟩ _ _ _ _ h1,h2⟩
    · cases h
end cc11
namespace cc11X
noncomputable def bd:Code:=(Tryz.f111.body).getD .skip
noncomputable def X:Ctx U El:=⟨E,tds,zeros,eqs,aC [(73,cc11.sp)],100000,19,ap [],fun _=>none⟩
noncomputable def nmR:Norm U:=⟨[],[4],[],[],[],[],[]⟩
noncomputable def RR:ab U El:=fun st=>aE nmR st (aD [4] [])
noncomputable def nm1:Norm U:=⟨[],[],[],[],[],[],[]⟩
noncomputable def nm2:Norm U:=⟨[],[0,1,7,8],[],[],[],[],[]⟩
abbrev Y1:=R
abbrev Y2:=(List Rule)→(List UInt8)→(List Node)→(List Lnk)→(List Int)→Int→Int→R
noncomputable def fr0 (l:List Rule) (s:List UInt8) (nds:List Node) (lks:List Lnk) (v:List Int):St U El:=⟨[(0,(.lst .rule l)),(1,(.fn 73 [] [(.pcs [(.str s)] 0),(.pcs [(.lst .node nds),(.lst .link lks)] 0),(.pcs [(.lst .int v)] 0)]))],[]⟩
noncomputable def fr1:St U El:=⟨[],[]⟩
noncomputable def fr2 (s0:List Rule) (f1c_0:List UInt8) (f1c_0_1:List Node) (f1c_1:List Lnk) (f1c_0_2:List Int) (x7:Int) (x8:Int):St U El:=⟨[(0,(.lst .rule s0)),(1,(.fn 73 [] [(.pcs [(.str f1c_0)] 0),(.pcs [(.lst .node f1c_0_1),(.lst .link f1c_1)] 0),(.pcs [(.lst .int f1c_0_2)] 0)])),(7,(.int .i64 x7)),(8,(.int .i64 x8))],[]⟩
noncomputable def sh0 (l:List Rule) (s:List UInt8) (nds:List Node) (lks:List Lnk) (v:List Int) (k2:Y2):R :=
  k2 l s nds lks v (Int.ofNat (List.length l)) (0:Int)
noncomputable def sh1:R :=
  some ((.int .i64 (-1:Int)),[])
noncomputable def sh2 (s0:List Rule) (f1c_0:List UInt8) (f1c_0_1:List Node) (f1c_1:List Lnk) (f1c_0_2:List Int) (x7:Int) (x8:Int) (k1:Y1) (k2:Y2):R :=
  aa (ilt x8 x7) (chk (inb x8 (List.length s0)) (chk ((bl f1c_0_1 f1c_0_2) (List.getD s0 (Int.toNat x8) az)) (aa ((dy f1c_0 f1c_0_1 f1c_0_2) (List.getD s0 (Int.toNat x8) az)) (some ((.int .i64 x8),[])) (k2 s0 f1c_0 f1c_0_1 f1c_1 f1c_0_2 x7 (IntKind.wrap .i64 (x8+(1:Int))))))) (k1)
noncomputable def it2 (Kb1:ab U El) (n:Nat):ab U El:=bw nm2 (fun st' K'=>ac X (cdp [1,0,1,0,0] bd) .d st' K' (aq 0 (ah nm1 Kb1) (fun _ _=>none)) RR) n
noncomputable def ct1:ab U El:=fun st=>ac X (cdp [1,1] bd) .d st RR (fun _ _=>none) RR
theorem P0 (l s nds lks v):ac X (cdp [] bd) (.seq none .d (.seq (some nm1) (.seq none .d (.block (.loop nm2 .d))) .d)) (fr0 l s nds lks v) RR (fun _ _=>none) RR=sh0 l s nds lks v (fun y0 y1 y2 y3 y4 y5 y6=>(hid (it2 (hid ct1) 100000)) (fr2 y0 y1 y2 y3 y4 y5 y6)):=by kernel_rfl
theorem P1:ct1 (fr1)=sh1:=by kernel_rfl
theorem P2 (s0 f1c_0 f1c_0_1 f1c_1 f1c_0_2 x7 x8) (Kb1 Kb2:ab U El):ac X (cdp [1,0,1,0,0] bd) .d (fr2 s0 f1c_0 f1c_0_1 f1c_1 f1c_0_2 x7 x8) (ah nm2 Kb2) (aq 0 (ah nm1 Kb1) (fun _ _=>none)) RR=sh2 s0 f1c_0 f1c_0_1 f1c_1 f1c_0_2 x7 x8 (Kb1 (fr1)) (fun y0 y1 y2 y3 y4 y5 y6=>Kb2 (fr2 y0 y1 y2 y3 y4 y5 y6)):=by kernel_rfl
noncomputable def f1:R:=sh1
noncomputable def f2:Nat→Y2
  | 0=>fun _ _ _ _ _ _ _=>none
  | n+1=>fun s0 f1c_0 f1c_0_1 f1c_1 f1c_0_2 x7 x8=>sh2 s0 f1c_0 f1c_0_1 f1c_1 f1c_0_2 x7 x8 f1 (f2 n)
noncomputable def f0 (l:List Rule) (s:List UInt8) (nds:List Node) (lks:List Lnk) (v:List Int):R:=sh0 l s nds lks v (f2 100000)
theorem T1:(hid ct1) (fr1)=f1:=by
  refine (congrFun (ai _) _).trans <| (P1).trans ?_
  show _=sh1
  rfl
theorem T2:∀ (n:Nat),∀ s0 f1c_0 f1c_0_1 f1c_1 f1c_0_2 x7 x8,it2 (hid ct1) n (fr2 s0 f1c_0 f1c_0_1 f1c_1 f1c_0_2 x7 x8)=f2 n s0 f1c_0 f1c_0_1 f1c_1 f1c_0_2 x7 x8:=by
  intro n
  induction n with
  | zero=>intros; rfl
  | succ n ih =>
    intro s0 f1c_0 f1c_0_1 f1c_1 f1c_0_2 x7 x8
    refine (P2 s0 f1c_0 f1c_0_1 f1c_1 f1c_0_2 x7 x8 (hid ct1) (it2 (hid ct1) n)).trans ?_
    show _=sh2 s0 f1c_0 f1c_0_1 f1c_1 f1c_0_2 x7 x8 f1 (f2 n)
    simp only [T1,ih]
theorem H2 (s0 f1c_0 f1c_0_1 f1c_1 f1c_0_2 x7 x8):hid (it2 (hid ct1) 100000) (fr2 s0 f1c_0 f1c_0_1 f1c_1 f1c_0_2 x7 x8)=f2 100000 s0 f1c_0 f1c_0_1 f1c_1 f1c_0_2 x7 x8:=(congrFun (ai _) _).trans (T2 100000 s0 f1c_0 f1c_0_1 f1c_1 f1c_0_2 x7 x8)
theorem T0 (l s nds lks v):ac X bd (.seq none .d (.seq (some nm1) (.seq none .d (.block (.loop nm2 .d))) .d)) (fr0 l s nds lks v) RR (fun _ _=>none) RR=f0 l s nds lks v:=by
  refine (P0 l s nds lks v).trans ?_
  show _=sh0 l s nds lks v (f2 100000)
  simp only [H2]
theorem run (l s nds lks v):aJ X bd (.seq none .d (.seq (some nm1) (.seq none .d (.block (.loop nm2 .d))) .d)) nmR [4] [] [(.lst .rule l),(.fn 73 [] [(.pcs [(.str s)] 0),(.pcs [(.lst .node nds),(.lst .link lks)] 0),(.pcs [(.lst .int v)] 0)])]=f0 l s nds lks v:=T0 l s nds lks v
theorem f0_eq (l:List Rule) (s:List UInt8) (nds:List Node) (lks:List Lnk) (v:List Int) (h:((nle (List.length l) 90000&&List.all l (bl nds v)))=true):f0 l s nds lks v=bH (aN (dy s nds v) 0 l):=by
  simp only [Bool.and_eq_true] at h
  have ha:=List.all_eq_true.1 h.2
  have hl:=bQ h.1
  refine (bu l (by omega) (fun n_ (_:Unit) i_=>f2 n_ l s nds lks v (Int.ofNat l.length) i_) _ (fun _=>bH (-1)) (fun n_ u_ i_ hi_ => ?_) (fun n_ u_ => ?_) 100000 0 () (by omega) (by omega)).trans (bM (dy s nds v) bH l 0)
  · show sh2 l s nds lks v (Int.ofNat l.length) i_ f1 (f2 n_) = _
    unfold sh2
    rw [aX (by simp; omega),aW hi_,ak,ar hi_,ha l[i_] (List.getElem_mem hi_)]
    rfl
  · show sh2 l s nds lks v (Int.ofNat l.length) (l.length : Int) f1 (f2 n_) = _
    unfold sh2
    rw [aR (by simp)]
    rfl
theorem ok:CtxOk Tryz.prog X:=aI tab (spC cc11.spOk spN) dpN
theorem okM:MOk Tryz.prog X:=fun g sp h=>by cases h
theorem spec (l:List Rule) (s:List UInt8) (nds:List Node) (lks:List Lnk) (v:List Int) (h:((nle (List.length l) 90000&&List.all l (bl nds v)))=true):aj Tryz.prog E 111 [(.lst .rule l),(.fn 73 [] [(.pcs [(.str s)] 0),(.pcs [(.lst .node nds),(.lst .link lks)] 0),(.pcs [(.lst .int v)] 0)])] (.int .i64 (aN (dy s nds v) 0 l)) [] :=
  ae ok okM Tryz.call111 Tryz.func111 (by kernel_rfl) (by kernel_rfl) (by kernel_rfl) (by show 2≤19; decide) (by decide) (by rfl) ((run l s nds lks v).trans (f0_eq l s nds lks v h))
noncomputable def sp:Sp U El:=fun args k=>match args with
  | [.lst .rule l,.fn 73 [] [.pcs [.str s] 0,.pcs [.lst .node nds,.lst .link lks] 0,.pcs [.lst .int v] 0]]=>chk ((nle (List.length l) 90000&&List.all l (bl nds v))) (k (.int .i64 (aN (dy s nds v) 0 l)) [])
  | _=>none
theorem spOk:SpOk Tryz.prog E 111 sp where
  det:=fun vs=>by
    unfold sp
    split
    · exact aY _ _ _
    · exact ⟨none,fun _=>rfl⟩
  ok:=fun vs k r h=>by
    unfold sp at h
    split at h
    · obtain ⟨h1, h2⟩ := af h
      exact ⟨_,_,spec _ _ _ _ _ h1,h2⟩
    · cases h
end cc11X
namespace cc11C
noncomputable def bd:Code:=(Tryz.f61.body).getD .skip
noncomputable def X:Ctx U El:=⟨E,tds,zeros,eqs,aC [(111,cc11X.sp)],100000,9,ap [],fun _=>none⟩
noncomputable def nmR:Norm U:=⟨[],[4],[],[],[],[],[]⟩
noncomputable def RR:ab U El:=fun st=>aE nmR st (aD [4] [])
noncomputable def fr0 (l:List Rule) (s:List UInt8) (nds:List Node) (lks:List Lnk) (v:List Int):St U El:=⟨[(0,(.lst .rule l)),(1,(.fn 73 [] [(.pcs [(.str s)] 0),(.pcs [(.lst .node nds),(.lst .link lks)] 0),(.pcs [(.lst .int v)] 0)]))],[]⟩
noncomputable def sh0 (l:List Rule) (s:List UInt8) (nds:List Node) (lks:List Lnk) (v:List Int):R :=
  chk ((nle (List.length l) 90000&&List.all l (bl nds v))) (some ((.bool (ile (0:Int) (aN (dy s nds v) 0 l))),[]))
theorem P0 (l s nds lks v):ac X (cdp [] bd) .d (fr0 l s nds lks v) RR (fun _ _=>none) RR=sh0 l s nds lks v:=by kernel_rfl
noncomputable def f0 (l:List Rule) (s:List UInt8) (nds:List Node) (lks:List Lnk) (v:List Int):R:=sh0 l s nds lks v
theorem T0 (l s nds lks v):ac X bd .d (fr0 l s nds lks v) RR (fun _ _=>none) RR=f0 l s nds lks v:=by
  refine (P0 l s nds lks v).trans ?_
  show _=sh0 l s nds lks v
  rfl
theorem run (l s nds lks v):aJ X bd .d nmR [4] [] [(.lst .rule l),(.fn 73 [] [(.pcs [(.str s)] 0),(.pcs [(.lst .node nds),(.lst .link lks)] 0),(.pcs [(.lst .int v)] 0)])]=f0 l s nds lks v:=T0 l s nds lks v
theorem f0_eq (l:List Rule) (s:List UInt8) (nds:List Node) (lks:List Lnk) (v:List Int) (h:((nle (List.length l) 90000&&List.all l (bl nds v)))=true):f0 l s nds lks v=aH (List.any l (dy s nds v)):=by
  show chk _ (aH _)=_
  rw [h,bL,b8]
theorem ok:CtxOk Tryz.prog X:=aI tab (spC cc11X.spOk spN) dpN
theorem okM:MOk Tryz.prog X:=fun g sp h=>by cases h
theorem spec (l:List Rule) (s:List UInt8) (nds:List Node) (lks:List Lnk) (v:List Int) (h:((nle (List.length l) 90000&&List.all l (bl nds v)))=true):aj Tryz.prog E 61 [(.lst .rule l),(.fn 73 [] [(.pcs [(.str s)] 0),(.pcs [(.lst .node nds),(.lst .link lks)] 0),(.pcs [(.lst .int v)] 0)])] (.bool (List.any l (dy s nds v))) [] :=
  ae ok okM Tryz.call61 Tryz.func61 (by kernel_rfl) (by kernel_rfl) (by kernel_rfl) (by show 2≤9; decide) (by decide) (by rfl) ((run l s nds lks v).trans (f0_eq l s nds lks v h))
noncomputable def sp:Sp U El:=fun args k=>match args with
  | [.lst .rule l,.fn 73 [] [.pcs [.str s] 0,.pcs [.lst .node nds,.lst .link lks] 0,.pcs [.lst .int v] 0]]=>chk ((nle (List.length l) 90000&&List.all l (bl nds v))) (k (.bool (List.any l (dy s nds v))) [])
  | _=>none
theorem spOk:SpOk Tryz.prog E 61 sp where
  det:=fun vs=>by
    unfold sp
    split
    · exact aY _ _ _
    · exact ⟨none,fun _=>rfl⟩
  ok:=fun vs k r h=>by
    unfold sp at h
    split at h
    · obtain ⟨h1, h2⟩ := af h
      exact ⟨_,_,spec _ _ _ _ _ h1,h2⟩
    · cases h
end cc11C
end Go.Proofs.YthdimnlkcgchoaaGreat
