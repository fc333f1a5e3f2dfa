/- Searches by closures; what is large. -/
import Derived.Test.YthdimnlkcgchoaaGreatVA
namespace Go.Proofs.YthdimnlkcgchoaaGreat
set_option linter.unusedSectionVars false
set_option linter.unusedSimpArgs false
set_option linter.unusedVariables false
set_option maxRecDepth 100000
noncomputable def okN (n:Net):Bool:=nle n.nds.length 90000&&(nle n.lks.length 90000&&List.all n.lks (fun x=>nle x.lv.length 90000))
noncomputable def bS (n:Net) (s:List UInt8):Int:=aN (bk s) 0 n.nds
noncomputable def aF (n:Net) (s:List UInt8):Int:=aN (bU s) 0 n.lks
theorem cr {n:Net} (h:okN n=true):nle n.nds.length 90000=true:=(Bool.and_eq_true_iff.1 h).1
theorem gd {n:Net} (h:okN n=true):nle n.lks.length 90000=true:=(Bool.and_eq_true_iff.1 (Bool.and_eq_true_iff.1 h).2).1
theorem sq {n:Net} (h:okN n=true):∀ x∈n.lks,nle x.lv.length 90000=true:=List.all_eq_true.1 (Bool.and_eq_true_iff.1 (Bool.and_eq_true_iff.1 h).2).2
namespace lg1
noncomputable def bd:Code:=(Tryz.f58.body).getD .skip
noncomputable def X:Ctx U El:=⟨E,tds,zeros,eqs,aC [],100000,13,ap [],fun _=>none⟩
noncomputable def nmR:Norm U:=⟨[],[2],[],[],[],[],[]⟩
noncomputable def RR:ab U El:=fun st=>aE nmR st (aD [2] [])
noncomputable def fr0 (x:Node):St U El:=⟨[(0,(.agg [(.str x.nn),(.int .i64 x.nk),(.int .i64 x.nx),(.int .i64 x.ny),(.int .i64 x.ni),(.int .i64 x.ng),(.lst .knot x.nh),(.bool x.np),(.int .i64 x.nr)]))],[]⟩
noncomputable def sh0 (x:Node):R :=
  aa (ilt (110:Int) (Int.ofNat (List.length x.nh))) (some ((.bool true),[])) (some ((.bool (ilt (100:Int) (Int.ofNat (List.length x.nn)))),[]))
theorem P0 (x):ac X (cdp [] bd) .d (fr0 x) RR (fun _ _=>none) RR=sh0 x:=by kernel_rfl
noncomputable def f0 (x:Node):R:=sh0 x
theorem T0 (x):ac X bd .d (fr0 x) RR (fun _ _=>none) RR=f0 x:=by
  refine (P0 x).trans ?_
  show _=sh0 x
  rfl
theorem run (x):aJ X bd .d nmR [2] [] [(.agg [(.str x.nn),(.int .i64 x.nk),(.int .i64 x.nx),(.int .i64 x.ny),(.int .i64 x.ni),(.int .i64 x.ng),(.lst .knot x.nh),(.bool x.np),(.int .i64 x.nr)])]=f0 x:=T0 x
theorem f0_eq (x:Node):f0 x=aH (cG x):=cOr aH _ _
theorem ok:CtxOk Tryz.prog X:=aI tab spN dpN
theorem okM:MOk Tryz.prog X:=fun g sp h=>by cases h
theorem spec (x:Node):aj Tryz.prog E 58 [(.agg [(.str x.nn),(.int .i64 x.nk),(.int .i64 x.nx),(.int .i64 x.ny),(.int .i64 x.ni),(.int .i64 x.ng),(.lst .knot x.nh),(.bool x.np),(.int .i64 x.nr)])] (.bool (cG x)) [] :=
  ae ok okM Tryz.call58 Tryz.func58 (by kernel_rfl) (by kernel_rfl) (by kernel_rfl) (by show 1≤13; decide) (by decide) (by rfl) ((run x).trans (f0_eq x))
noncomputable def sp:Sp U El:=fun args k=>match args with
  | [.agg [.str x_nn,.int .i64 x_nk,.int .i64 x_nx,.int .i64 x_ny,.int .i64 x_ni,.int .i64 x_ng,.lst .knot x_nh,.bool x_np,.int .i64 x_nr]]=>k (.bool (cG (⟨x_nn,x_nk,x_nx,x_ny,x_ni,x_ng,x_nh,x_np,x_nr⟩:Node))) []
  | _=>none
theorem spOk:SpOk Tryz.prog E 58 sp where
  det:=fun vs=>by
    unfold sp
    split
    · exact ⟨some (_,_),fun _=>rfl⟩
    · exact ⟨none,fun _=>rfl⟩
  ok:=fun vs k r h=>by
    unfold sp at h
    split at h
    · exact ⟨_,_,spec ⟨_,_,_,_,_,_,_,_,_⟩,h⟩
    · cases h
end lg1
namespace lg1X
noncomputable def bd:Code:=(Tryz.f109.body).getD .skip
noncomputable def X:Ctx U El:=⟨E,tds,zeros,eqs,aC [(58,lg1.sp)],100000,19,ap [],fun _=>none⟩
noncomputable def nmR:Norm U:=⟨[],[4],[],[],[],[],[]⟩
noncomputable def RR:ab U El:=fun st=>aE nmR st (aD [4] [])
noncomputable def nm1:Norm U:=⟨[],[],[],[],[],[],[]⟩
noncomputable def nm2:Norm U:=⟨[],[0,1,7,8],[],[],[],[],[]⟩
abbrev Y1:=R
abbrev Y2:=(List Node)→Int→Int→R
noncomputable def fr0 (l:List Node):St U El:=⟨[(0,(.lst .node l)),(1,(.fn 58 [] []))],[]⟩
noncomputable def fr1:St U El:=⟨[],[]⟩
noncomputable def fr2 (s0:List Node) (x7:Int) (x8:Int):St U El:=⟨[(0,(.lst .node s0)),(1,(.fn 58 [] [])),(7,(.int .i64 x7)),(8,(.int .i64 x8))],[]⟩
noncomputable def sh0 (l:List Node) (k2:Y2):R :=
  k2 l (Int.ofNat (List.length l)) (0:Int)
noncomputable def sh1:R :=
  some ((.int .i64 (-1:Int)),[])
noncomputable def sh2 (s0:List Node) (x7:Int) (x8:Int) (k1:Y1) (k2:Y2):R :=
  aa (ilt x8 x7) (chk (inb x8 (List.length s0)) (aa (cG (List.getD s0 (Int.toNat x8) aO)) (some ((.int .i64 x8),[])) (k2 s0 x7 (IntKind.wrap .i64 (x8+(1:Int)))))) (k1)
noncomputable def it2 (Kb1:ab U El) (n:Nat):ab U El:=bw nm2 (fun st' K'=>ac X (cdp [1,0,1,0,0] bd) .d st' K' (aq 0 (ah nm1 Kb1) (fun _ _=>none)) RR) n
noncomputable def ct1:ab U El:=fun st=>ac X (cdp [1,1] bd) .d st RR (fun _ _=>none) RR
theorem P0 (l):ac X (cdp [] bd) (.seq none .d (.seq (some nm1) (.seq none .d (.block (.loop nm2 .d))) .d)) (fr0 l) RR (fun _ _=>none) RR=sh0 l (fun y0 y1 y2=>(hid (it2 (hid ct1) 100000)) (fr2 y0 y1 y2)):=by kernel_rfl
theorem P1:ct1 (fr1)=sh1:=by kernel_rfl
theorem P2 (s0 x7 x8) (Kb1 Kb2:ab U El):ac X (cdp [1,0,1,0,0] bd) .d (fr2 s0 x7 x8) (ah nm2 Kb2) (aq 0 (ah nm1 Kb1) (fun _ _=>none)) RR=sh2 s0 x7 x8 (Kb1 (fr1)) (fun y0 y1 y2=>Kb2 (fr2 y0 y1 y2)):=by kernel_rfl
noncomputable def f1:R:=sh1
noncomputable def f2:Nat→Y2
  | 0=>fun _ _ _=>none
  | n+1=>fun s0 x7 x8=>sh2 s0 x7 x8 f1 (f2 n)
noncomputable def f0 (l:List Node):R:=sh0 l (f2 100000)
theorem T1:(hid ct1) (fr1)=f1:=by
  refine (congrFun (ai _) _).trans <| (P1).trans ?_
  show _=sh1
  rfl
theorem T2:∀ (n:Nat),∀ s0 x7 x8,it2 (hid ct1) n (fr2 s0 x7 x8)=f2 n s0 x7 x8:=by
  intro n
  induction n with
  | zero=>intros; rfl
  | succ n ih =>
    intro s0 x7 x8
    refine (P2 s0 x7 x8 (hid ct1) (it2 (hid ct1) n)).trans ?_
    show _=sh2 s0 x7 x8 f1 (f2 n)
    simp only [T1,ih]
theorem H2 (s0 x7 x8):hid (it2 (hid ct1) 100000) (fr2 s0 x7 x8)=f2 100000 s0 x7 x8:=(congrFun (ai _) _).trans (T2 100000 s0 x7 x8)
theorem T0 (l):ac X bd (.seq none .d (.seq (some nm1) (.seq none .d (.block (.loop nm2 .d))) .d)) (fr0 l) RR (fun _ _=>none) RR=f0 l:=by
  refine (P0 l).trans ?_
  show _=sh0 l (f2 100000)
  simp only [H2]
theorem run (l):aJ X bd (.seq none .d (.seq (some nm1) (.seq none .d (.block (.loop nm2 .d))) .d)) nmR [4] [] [(.lst .node l),(.fn 58 [] [])]=f0 l:=T0 l
theorem f0_eq (l:List Node) (h:(nle (List.length l) 90000)=true):f0 l=bH (aN cG 0 l):=by
  have hl:=bQ h
  refine (bu l (by omega) (fun n_ (_:Unit) i_=>f2 n_ l (Int.ofNat l.length) i_) _ (fun _=>bH (-1)) (fun n_ u_ i_ hi_ => ?_) (fun n_ u_ => ?_) 100000 0 () (by omega) (by omega)).trans (bM cG bH l 0)
  · show sh2 l (Int.ofNat l.length) i_ f1 (f2 n_) = _
    unfold sh2
    rw [aX (by simp; omega),aW hi_,ak,ar hi_]
    rfl
  · show sh2 l (Int.ofNat l.length) (l.length : Int) f1 (f2 n_) = _
    unfold sh2
    rw [aR (by simp)]
    rfl
theorem ok:CtxOk Tryz.prog X:=aI tab (spC lg1.spOk spN) dpN
theorem okM:MOk Tryz.prog X:=fun g sp h=>by cases h
theorem spec (l:List Node) (h:(nle (List.length l) 90000)=true):aj Tryz.prog E 109 [(.lst .node l),(.fn 58 [] [])] (.int .i64 (aN cG 0 l)) [] :=
  ae ok okM Tryz.call109 Tryz.func109 (by kernel_rfl) (by kernel_rfl) (by kernel_rfl) (by show 2≤19; decide) (by decide) (by rfl) ((run l).trans (f0_eq l h))
noncomputable def sp:Sp U El:=fun args k=>match args with
  | [.lst .node l,.fn 58 [] []]=>chk (nle (List.length l) 90000) (k (.int .i64 (aN cG 0 l)) [])
  | _=>none
theorem spOk:SpOk Tryz.prog E 109 sp where
  det:=fun vs=>by
    unfold sp
    split
    · exact aY _ _ _
    · exact ⟨none,fun _=>rfl⟩
  ok:=fun vs k r h=>by
    unfold sp at h
    split at h
    · obtain ⟨h1, h2⟩ := af h
      exact ⟨_,_,spec _ h1,h2⟩
    · cases h
end lg1X
namespace lg1C
noncomputable def bd:Code:=(Tryz.f57.body).getD .skip
noncomputable def X:Ctx U El:=⟨E,tds,zeros,eqs,aC [(109,lg1X.sp)],100000,9,ap [],fun _=>none⟩
noncomputable def nmR:Norm U:=⟨[],[4],[],[],[],[],[]⟩
noncomputable def RR:ab U El:=fun st=>aE nmR st (aD [4] [])
noncomputable def fr0 (l:List Node):St U El:=⟨[(0,(.lst .node l)),(1,(.fn 58 [] []))],[]⟩
noncomputable def sh0 (l:List Node):R :=
  chk (nle (List.length l) 90000) (some ((.bool (ile (0:Int) (aN cG 0 l))),[]))
theorem P0 (l):ac X (cdp [] bd) .d (fr0 l) RR (fun _ _=>none) RR=sh0 l:=by kernel_rfl
noncomputable def f0 (l:List Node):R:=sh0 l
theorem T0 (l):ac X bd .d (fr0 l) RR (fun _ _=>none) RR=f0 l:=by
  refine (P0 l).trans ?_
  show _=sh0 l
  rfl
theorem run (l):aJ X bd .d nmR [4] [] [(.lst .node l),(.fn 58 [] [])]=f0 l:=T0 l
theorem f0_eq (l:List Node) (h:(nle (List.length l) 90000)=true):f0 l=aH (List.any l cG):=by
  show chk _ (aH _)=_
  rw [h,bL,b8]
theorem ok:CtxOk Tryz.prog X:=aI tab (spC lg1X.spOk spN) dpN
theorem okM:MOk Tryz.prog X:=fun g sp h=>by cases h
theorem spec (l:List Node) (h:(nle (List.length l) 90000)=true):aj Tryz.prog E 57 [(.lst .node l),(.fn 58 [] [])] (.bool (List.any l cG)) [] :=
  ae ok okM Tryz.call57 Tryz.func57 (by kernel_rfl) (by kernel_rfl) (by kernel_rfl) (by show 2≤9; decide) (by decide) (by rfl) ((run l).trans (f0_eq l h))
noncomputable def sp:Sp U El:=fun args k=>match args with
  | [.lst .node l,.fn 58 [] []]=>chk (nle (List.length l) 90000) (k (.bool (List.any l cG)) [])
  | _=>none
theorem spOk:SpOk Tryz.prog E 57 sp where
  det:=fun vs=>by
    unfold sp
    split
    · exact aY _ _ _
    · exact ⟨none,fun _=>rfl⟩
  ok:=fun vs k r h=>by
    unfold sp at h
    split at h
    · obtain ⟨h1, h2⟩ := af h
      exact ⟨_,_,spec _ h1,h2⟩
    · cases h
end lg1C
namespace lg2
noncomputable def bd:Code:=(Tryz.f60.body).getD .skip
noncomputable def X:Ctx U El:=⟨E,tds,zeros,eqs,aC [],100000,31,ap [],fun _=>none⟩
noncomputable def nmR:Norm U:=⟨[],[2],[],[],[],[],[]⟩
noncomputable def RR:ab U El:=fun st=>aE nmR st (aD [2] [])
noncomputable def fr0 (x:Lnk):St U El:=⟨[(0,(.agg [(.str x.ln),(.str x.lf),(.str x.lt),(.int .i64 x.lk),(.int .i64 x.ll),(.int .i64 x.lu),(.int .i64 x.ld),(.str x.lc),(.int .i64 x.lw),(.int .i64 x.lh),(.lst .knot x.lv)]))],[]⟩
noncomputable def sh0 (x:Lnk):R :=
  aa (ilt (110:Int) (Int.ofNat (List.length x.lv))) (some ((.bool true),[])) (aa (ilt (100:Int) (Int.ofNat (List.length x.ln))) (some ((.bool true),[])) (aa (ilt (100:Int) (Int.ofNat (List.length x.lf))) (some ((.bool true),[])) (aa (ilt (100:Int) (Int.ofNat (List.length x.lt))) (some ((.bool true),[])) (some ((.bool (ilt (100:Int) (Int.ofNat (List.length x.lc)))),[])))))
theorem P0 (x):ac X (cdp [] bd) .d (fr0 x) RR (fun _ _=>none) RR=sh0 x:=by kernel_rfl
noncomputable def f0 (x:Lnk):R:=sh0 x
theorem T0 (x):ac X bd .d (fr0 x) RR (fun _ _=>none) RR=f0 x:=by
  refine (P0 x).trans ?_
  show _=sh0 x
  rfl
theorem run (x):aJ X bd .d nmR [2] [] [(.agg [(.str x.ln),(.str x.lf),(.str x.lt),(.int .i64 x.lk),(.int .i64 x.ll),(.int .i64 x.lu),(.int .i64 x.ld),(.str x.lc),(.int .i64 x.lw),(.int .i64 x.lh),(.lst .knot x.lv)])]=f0 x:=T0 x
theorem f0_eq (x:Lnk):f0 x=aH (ci x):=by
  show sh0 x=_
  unfold sh0 ci
  simp only [oB,cOr]
theorem ok:CtxOk Tryz.prog X:=aI tab spN dpN
theorem okM:MOk Tryz.prog X:=fun g sp h=>by cases h
theorem spec (x:Lnk):aj Tryz.prog E 60 [(.agg [(.str x.ln),(.str x.lf),(.str x.lt),(.int .i64 x.lk),(.int .i64 x.ll),(.int .i64 x.lu),(.int .i64 x.ld),(.str x.lc),(.int .i64 x.lw),(.int .i64 x.lh),(.lst .knot x.lv)])] (.bool (ci x)) [] :=
  ae ok okM Tryz.call60 Tryz.func60 (by kernel_rfl) (by kernel_rfl) (by kernel_rfl) (by show 1≤31; decide) (by decide) (by rfl) ((run x).trans (f0_eq x))
noncomputable def sp:Sp U El:=fun args k=>match args with
  | [.agg [.str x_ln,.str x_lf,.str x_lt,.int .i64 x_lk,.int .i64 x_ll,.int .i64 x_lu,.int .i64 x_ld,.str x_lc,.int .i64 x_lw,.int .i64 x_lh,.lst .knot x_lv]]=>k (.bool (ci (⟨x_ln,x_lf,x_lt,x_lk,x_ll,x_lu,x_ld,x_lc,x_lw,x_lh,x_lv⟩:Lnk))) []
  | _=>none
theorem spOk:SpOk Tryz.prog E 60 sp where
  det:=fun vs=>by
    unfold sp
    split
    · exact ⟨some (_,_),fun _=>rfl⟩
    · exact ⟨none,fun _=>rfl⟩
  ok:=fun vs k r h=>by
    unfold sp at h
    split at h
    · exact ⟨_,_,spec ⟨_,_,_,_,_,_,_,_,_,_,_⟩,h⟩
    · cases h
end lg2
namespace lg2X
noncomputable def bd:Code:=(Tryz.f110.body).getD .skip
noncomputable def X:Ctx U El:=⟨E,tds,zeros,eqs,aC [(60,lg2.sp)],100000,19,ap [],fun _=>none⟩
noncomputable def nmR:Norm U:=⟨[],[4],[],[],[],[],[]⟩
noncomputable def RR:ab U El:=fun st=>aE nmR st (aD [4] [])
noncomputable def nm1:Norm U:=⟨[],[],[],[],[],[],[]⟩
noncomputable def nm2:Norm U:=⟨[],[0,1,7,8],[],[],[],[],[]⟩
abbrev Y1:=R
abbrev Y2:=(List Lnk)→Int→Int→R
noncomputable def fr0 (l:List Lnk):St U El:=⟨[(0,(.lst .link l)),(1,(.fn 60 [] []))],[]⟩
noncomputable def fr1:St U El:=⟨[],[]⟩
noncomputable def fr2 (s0:List Lnk) (x7:Int) (x8:Int):St U El:=⟨[(0,(.lst .link s0)),(1,(.fn 60 [] [])),(7,(.int .i64 x7)),(8,(.int .i64 x8))],[]⟩
noncomputable def sh0 (l:List Lnk) (k2:Y2):R :=
  k2 l (Int.ofNat (List.length l)) (0:Int)
noncomputable def sh1:R :=
  some ((.int .i64 (-1:Int)),[])
noncomputable def sh2 (s0:List Lnk) (x7:Int) (x8:Int) (k1:Y1) (k2:Y2):R :=
  aa (ilt x8 x7) (chk (inb x8 (List.length s0)) (aa (ci (List.getD s0 (Int.toNat x8) bJ)) (some ((.int .i64 x8),[])) (k2 s0 x7 (IntKind.wrap .i64 (x8+(1:Int)))))) (k1)
noncomputable def it2 (Kb1:ab U El) (n:Nat):ab U El:=bw nm2 (fun st' K'=>ac X (cdp [1,0,1,0,0] bd) .d st' K' (aq 0 (ah nm1 Kb1) (fun _ _=>none)) RR) n
noncomputable def ct1:ab U El:=fun st=>ac X (cdp [1,1] bd) .d st RR (fun _ _=>none) RR
theorem P0 (l):ac X (cdp [] bd) (.seq none .d (.seq (some nm1) (.seq none .d (.block (.loop nm2 .d))) .d)) (fr0 l) RR (fun _ _=>none) RR=sh0 l (fun y0 y1 y2=>(hid (it2 (hid ct1) 100000)) (fr2 y0 y1 y2)):=by kernel_rfl
theorem P1:ct1 (fr1)=sh1:=by kernel_rfl
theorem P2 (s0 x7 x8) (Kb1 Kb2:ab U El):ac X (cdp [1,0,1,0,0] bd) .d (fr2 s0 x7 x8) (ah nm2 Kb2) (aq 0 (ah nm1 Kb1) (fun _ _=>none)) RR=sh2 s0 x7 x8 (Kb1 (fr1)) (fun y0 y1 y2=>Kb2 (fr2 y0 y1 y2)):=by kernel_rfl
noncomputable def f1:R:=sh1
noncomputable def f2:Nat→Y2
  | 0=>fun _ _ _=>none
  | n+1=>fun s0 x7 x8=>sh2 s0 x7 x8 f1 (f2 n)
noncomputable def f0 (l:List Lnk):R:=sh0 l (f2 100000)
theorem T1:(hid ct1) (fr1)=f1:=by
  refine (congrFun (ai _) _).trans <| (P1).trans ?_
  show _=sh1
  rfl
theorem T2:∀ (n:Nat),∀ s0 x7 x8,it2 (hid ct1) n (fr2 s0 x7 x8)=f2 n s0 x7 x8:=by
  intro n
  induction n with
  | zero=>intros; rfl
  | succ n ih =>
    intro s0 x7 x8
    refine (P2 s0 x7 x8 (hid ct1) (it2 (hid ct1) n)).trans ?_
    show _=sh2 s0 x7 x8 f1 (f2 n)
    simp only [T1,ih]
theorem H2 (s0 x7 x8):hid (it2 (hid ct1) 100000) (fr2 s0 x7 x8)=f2 100000 s0 x7 x8:=(congrFun (ai _) _).trans (T2 100000 s0 x7 x8)
theorem T0 (l):ac X bd (.seq none .d (.seq (some nm1) (.seq none .d (.block (.loop nm2 .d))) .d)) (fr0 l) RR (fun _ _=>none) RR=f0 l:=by
  refine (P0 l).trans ?_
  show _=sh0 l (f2 100000)
  simp only [H2]
theorem run (l):aJ X bd (.seq none .d (.seq (some nm1) (.seq none .d (.block (.loop nm2 .d))) .d)) nmR [4] [] [(.lst .link l),(.fn 60 [] [])]=f0 l:=T0 l
theorem f0_eq (l:List Lnk) (h:(nle (List.length l) 90000)=true):f0 l=bH (aN ci 0 l):=by
  have hl:=bQ h
  refine (bu l (by omega) (fun n_ (_:Unit) i_=>f2 n_ l (Int.ofNat l.length) i_) _ (fun _=>bH (-1)) (fun n_ u_ i_ hi_ => ?_) (fun n_ u_ => ?_) 100000 0 () (by omega) (by omega)).trans (bM ci bH l 0)
  · show sh2 l (Int.ofNat l.length) i_ f1 (f2 n_) = _
    unfold sh2
    rw [aX (by simp; omega),aW hi_,ak,ar hi_]
    rfl
  · show sh2 l (Int.ofNat l.length) (l.length : Int) f1 (f2 n_) = _
    unfold sh2
    rw [aR (by simp)]
    rfl
theorem ok:CtxOk Tryz.prog X:=aI tab (spC lg2.spOk spN) dpN
theorem okM:MOk Tryz.prog X:=fun g sp h=>by cases h
theorem spec (l:List Lnk) (h:(nle (List.length l) 90000)=true):aj Tryz.prog E 110 [(.lst .link l),(.fn 60 [] [])] (.int .i64 (aN ci 0 l)) [] :=
  ae ok okM Tryz.call110 Tryz.func110 (by kernel_rfl) (by kernel_rfl) (by kernel_rfl) (by show 2≤19; decide) (by decide) (by rfl) ((run l).trans (f0_eq l h))
noncomputable def sp:Sp U El:=fun args k=>match args with
  | [.lst .link l,.fn 60 [] []]=>chk (nle (List.length l) 90000) (k (.int .i64 (aN ci 0 l)) [])
  | _=>none
theorem spOk:SpOk Tryz.prog E 110 sp where
  det:=fun vs=>by
    unfold sp
    split
    · exact aY _ _ _
    · exact ⟨none,fun _=>rfl⟩
  ok:=fun vs k r h=>by
    unfold sp at h
    split at h
    · obtain ⟨h1, h2⟩ := af h
      exact ⟨_,_,spec _ h1,h2⟩
    · cases h
end lg2X
namespace lg2C
noncomputable def bd:Code:=(Tryz.f59.body).getD .skip
noncomputable def X:Ctx U El:=⟨E,tds,zeros,eqs,aC [(110,lg2X.sp)],100000,9,ap [],fun _=>none⟩
noncomputable def nmR:Norm U:=⟨[],[4],[],[],[],[],[]⟩
noncomputable def RR:ab U El:=fun st=>aE nmR st (aD [4] [])
noncomputable def fr0 (l:List Lnk):St U El:=⟨[(0,(.lst .link l)),(1,(.fn 60 [] []))],[]⟩
noncomputable def sh0 (l:List Lnk):R :=
  chk (nle (List.length l) 90000) (some ((.bool (ile (0:Int) (aN ci 0 l))),[]))
theorem P0 (l):ac X (cdp [] bd) .d (fr0 l) RR (fun _ _=>none) RR=sh0 l:=by kernel_rfl
noncomputable def f0 (l:List Lnk):R:=sh0 l
theorem T0 (l):ac X bd .d (fr0 l) RR (fun _ _=>none) RR=f0 l:=by
  refine (P0 l).trans ?_
  show _=sh0 l
  rfl
theorem run (l):aJ X bd .d nmR [4] [] [(.lst .link l),(.fn 60 [] [])]=f0 l:=T0 l
theorem f0_eq (l:List Lnk) (h:(nle (List.length l) 90000)=true):f0 l=aH (List.any l ci):=by
  show chk _ (aH _)=_
  rw [h,bL,b8]
theorem ok:CtxOk Tryz.prog X:=aI tab (spC lg2X.spOk spN) dpN
theorem okM:MOk Tryz.prog X:=fun g sp h=>by cases h
theorem spec (l:List Lnk) (h:(nle (List.length l) 90000)=true):aj Tryz.prog E 59 [(.lst .link l),(.fn 60 [] [])] (.bool (List.any l ci)) [] :=
  ae ok okM Tryz.call59 Tryz.func59 (by kernel_rfl) (by kernel_rfl) (by kernel_rfl) (by show 2≤9; decide) (by decide) (by rfl) ((run l).trans (f0_eq l h))
noncomputable def sp:Sp U El:=fun args k=>match args with
  | [.lst .link l,.fn 60 [] []]=>chk (nle (List.length l) 90000) (k (.bool (List.any l ci)) [])
  | _=>none
theorem spOk:SpOk Tryz.prog E 59 sp where
  det:=fun vs=>by
    unfold sp
    split
    · exact aY _ _ _
    · exact ⟨none,fun _=>rfl⟩
  ok:=fun vs k r h=>by
    unfold sp at h
    split at h
    · obtain ⟨h1, h2⟩ := af h
      exact ⟨_,_,spec _ h1,h2⟩
    · cases h
end lg2C
namespace lng1
noncomputable def bd:Code:=(Tryz.f89.body).getD .skip
noncomputable def X:Ctx U El:=⟨E,tds,zeros,eqs,aC [],100000,7,ap [],fun _=>none⟩
noncomputable def nmR:Norm U:=⟨[],[2],[],[],[],[],[]⟩
noncomputable def RR:ab U El:=fun st=>aE nmR st (aD [2] [])
noncomputable def fr0 (x:Cnd):St U El:=⟨[(0,(.agg [(.str x.cn),(.bool x.cb),(.int .i64 x.cl)]))],[]⟩
noncomputable def sh0 (x:Cnd):R :=
  some ((.bool (ilt (100:Int) (Int.ofNat (List.length x.cn)))),[])
theorem P0 (x):ac X (cdp [] bd) .d (fr0 x) RR (fun _ _=>none) RR=sh0 x:=by kernel_rfl
noncomputable def f0 (x:Cnd):R:=sh0 x
theorem T0 (x):ac X bd .d (fr0 x) RR (fun _ _=>none) RR=f0 x:=by
  refine (P0 x).trans ?_
  show _=sh0 x
  rfl
theorem run (x):aJ X bd .d nmR [2] [] [(.agg [(.str x.cn),(.bool x.cb),(.int .i64 x.cl)])]=f0 x:=T0 x
theorem f0_eq (x:Cnd):f0 x=aH (dp x):=rfl
theorem ok:CtxOk Tryz.prog X:=aI tab spN dpN
theorem okM:MOk Tryz.prog X:=fun g sp h=>by cases h
theorem spec (x:Cnd):aj Tryz.prog E 89 [(.agg [(.str x.cn),(.bool x.cb),(.int .i64 x.cl)])] (.bool (dp x)) [] :=
  ae ok okM Tryz.call89 Tryz.func89 (by kernel_rfl) (by kernel_rfl) (by kernel_rfl) (by show 1≤7; decide) (by decide) (by rfl) ((run x).trans (f0_eq x))
noncomputable def sp:Sp U El:=fun args k=>match args with
  | [.agg [.str x_cn,.bool x_cb,.int .i64 x_cl]]=>k (.bool (dp (⟨x_cn,x_cb,x_cl⟩:Cnd))) []
  | _=>none
theorem spOk:SpOk Tryz.prog E 89 sp where
  det:=fun vs=>by
    unfold sp
    split
    · exact ⟨some (_,_),fun _=>rfl⟩
    · exact ⟨none,fun _=>rfl⟩
  ok:=fun vs k r h=>by
    unfold sp at h
    split at h
    · exact ⟨_,_,spec ⟨_,_,_⟩,h⟩
    · cases h
end lng1
namespace lng1X
noncomputable def bd:Code:=(Tryz.f130.body).getD .skip
noncomputable def X:Ctx U El:=⟨E,tds,zeros,eqs,aC [(89,lng1.sp)],100000,19,ap [],fun _=>none⟩
noncomputable def nmR:Norm U:=⟨[],[4],[],[],[],[],[]⟩
noncomputable def RR:ab U El:=fun st=>aE nmR st (aD [4] [])
noncomputable def nm1:Norm U:=⟨[],[],[],[],[],[],[]⟩
noncomputable def nm2:Norm U:=⟨[],[0,1,7,8],[],[],[],[],[]⟩
abbrev Y1:=R
abbrev Y2:=(List Cnd)→Int→Int→R
noncomputable def fr0 (l:List Cnd):St U El:=⟨[(0,(.lst .cnd l)),(1,(.fn 89 [] []))],[]⟩
noncomputable def fr1:St U El:=⟨[],[]⟩
noncomputable def fr2 (s0:List Cnd) (x7:Int) (x8:Int):St U El:=⟨[(0,(.lst .cnd s0)),(1,(.fn 89 [] [])),(7,(.int .i64 x7)),(8,(.int .i64 x8))],[]⟩
noncomputable def sh0 (l:List Cnd) (k2:Y2):R :=
  k2 l (Int.ofNat (List.length l)) (0:Int)
noncomputable def sh1:R :=
  some ((.int .i64 (-1:Int)),[])
noncomputable def sh2 (s0:List Cnd) (x7:Int) (x8:Int) (k1:Y1) (k2:Y2):R :=
  aa (ilt x8 x7) (chk (inb x8 (List.length s0)) (aa (dp (List.getD s0 (Int.toNat x8) cI)) (some ((.int .i64 x8),[])) (k2 s0 x7 (IntKind.wrap .i64 (x8+(1:Int)))))) (k1)
noncomputable def it2 (Kb1:ab U El) (n:Nat):ab U El:=bw nm2 (fun st' K'=>ac X (cdp [1,0,1,0,0] bd) .d st' K' (aq 0 (ah nm1 Kb1) (fun _ _=>none)) RR) n
noncomputable def ct1:ab U El:=fun st=>ac X (cdp [1,1] bd) .d st RR (fun _ _=>none) RR
theorem P0 (l):ac X (cdp [] bd) (.seq none .d (.seq (some nm1) (.seq none .d (.block (.loop nm2 .d))) .d)) (fr0 l) RR (fun _ _=>none) RR=sh0 l (fun y0 y1 y2=>(hid (it2 (hid ct1) 100000)) (fr2 y0 y1 y2)):=by kernel_rfl
theorem P1:ct1 (fr1)=sh1:=by kernel_rfl
theorem P2 (s0 x7 x8) (Kb1 Kb2:ab U El):ac X (cdp [1,0,1,0,0] bd) .d (fr2 s0 x7 x8) (ah nm2 Kb2) (aq 0 (ah nm1 Kb1) (fun _ _=>none)) RR=sh2 s0 x7 x8 (Kb1 (fr1)) (fun y0 y1 y2=>Kb2 (fr2 y0 y1 y2)):=by kernel_rfl
noncomputable def f1:R:=sh1
noncomputable def f2:Nat→Y2
  | 0=>fun _ _ _=>none
  | n+1=>fun s0 x7 x8=>sh2 s0 x7 x8 f1 (f2 n)
noncomputable def f0 (l:List Cnd):R:=sh0 l (f2 100000)
theorem T1:(hid ct1) (fr1)=f1:=by
  refine (congrFun (ai _) _).trans <| (P1).trans ?_
  show _=sh1
  rfl
theorem T2:∀ (n:Nat),∀ s0 x7 x8,it2 (hid ct1) n (fr2 s0 x7 x8)=f2 n s0 x7 x8:=by
  intro n
  induction n with
  | zero=>intros; rfl
  | succ n ih =>
    intro s0 x7 x8
    refine (P2 s0 x7 x8 (hid ct1) (it2 (hid ct1) n)).trans ?_
    show _=sh2 s0 x7 x8 f1 (f2 n)
    simp only [T1,ih]
theorem H2 (s0 x7 x8):hid (it2 (hid ct1) 100000) (fr2 s0 x7 x8)=f2 100000 s0 x7 x8:=(congrFun (ai _) _).trans (T2 100000 s0 x7 x8)
theorem T0 (l):ac X bd (.seq none .d (.seq (some nm1) (.seq none .d (.block (.loop nm2 .d))) .d)) (fr0 l) RR (fun _ _=>none) RR=f0 l:=by
  refine (P0 l).trans ?_
  show _=sh0 l (f2 100000)
  simp only [H2]
theorem run (l):aJ X bd (.seq none .d (.seq (some nm1) (.seq none .d (.block (.loop nm2 .d))) .d)) nmR [4] [] [(.lst .cnd l),(.fn 89 [] [])]=f0 l:=T0 l
theorem f0_eq (l:List Cnd) (h:(nle (List.length l) 90000)=true):f0 l=bH (aN dp 0 l):=by
  have hl:=bQ h
  refine (bu l (by omega) (fun n_ (_:Unit) i_=>f2 n_ l (Int.ofNat l.length) i_) _ (fun _=>bH (-1)) (fun n_ u_ i_ hi_ => ?_) (fun n_ u_ => ?_) 100000 0 () (by omega) (by omega)).trans (bM dp bH l 0)
  · show sh2 l (Int.ofNat l.length) i_ f1 (f2 n_) = _
    unfold sh2
    rw [aX (by simp; omega),aW hi_,ak,ar hi_]
    rfl
  · show sh2 l (Int.ofNat l.length) (l.length : Int) f1 (f2 n_) = _
    unfold sh2
    rw [aR (by simp)]
    rfl
theorem ok:CtxOk Tryz.prog X:=aI tab (spC lng1.spOk spN) dpN
theorem okM:MOk Tryz.prog X:=fun g sp h=>by cases h
theorem spec (l:List Cnd) (h:(nle (List.length l) 90000)=true):aj Tryz.prog E 130 [(.lst .cnd l),(.fn 89 [] [])] (.int .i64 (aN dp 0 l)) [] :=
  ae ok okM Tryz.call130 Tryz.func130 (by kernel_rfl) (by kernel_rfl) (by kernel_rfl) (by show 2≤19; decide) (by decide) (by rfl) ((run l).trans (f0_eq l h))
noncomputable def sp:Sp U El:=fun args k=>match args with
  | [.lst .cnd l,.fn 89 [] []]=>chk (nle (List.length l) 90000) (k (.int .i64 (aN dp 0 l)) [])
  | _=>none
theorem spOk:SpOk Tryz.prog E 130 sp where
  det:=fun vs=>by
    unfold sp
    split
    · exact aY _ _ _
    · exact ⟨none,fun _=>rfl⟩
  ok:=fun vs k r h=>by
    unfold sp at h
    split at h
    · obtain ⟨h1, h2⟩ := af h
      exact ⟨_,_,spec _ h1,h2⟩
    · cases h
end lng1X
namespace lng1C
noncomputable def bd:Code:=(Tryz.f88.body).getD .skip
noncomputable def X:Ctx U El:=⟨E,tds,zeros,eqs,aC [(130,lng1X.sp)],100000,9,ap [],fun _=>none⟩
noncomputable def nmR:Norm U:=⟨[],[4],[],[],[],[],[]⟩
noncomputable def RR:ab U El:=fun st=>aE nmR st (aD [4] [])
noncomputable def fr0 (l:List Cnd):St U El:=⟨[(0,(.lst .cnd l)),(1,(.fn 89 [] []))],[]⟩
noncomputable def sh0 (l:List Cnd):R :=
  chk (nle (List.length l) 90000) (some ((.bool (ile (0:Int) (aN dp 0 l))),[]))
theorem P0 (l):ac X (cdp [] bd) .d (fr0 l) RR (fun _ _=>none) RR=sh0 l:=by kernel_rfl
noncomputable def f0 (l:List Cnd):R:=sh0 l
theorem T0 (l):ac X bd .d (fr0 l) RR (fun _ _=>none) RR=f0 l:=by
  refine (P0 l).trans ?_
  show _=sh0 l
  rfl
theorem run (l):aJ X bd .d nmR [4] [] [(.lst .cnd l),(.fn 89 [] [])]=f0 l:=T0 l
theorem f0_eq (l:List Cnd) (h:(nle (List.length l) 90000)=true):f0 l=aH (List.any l dp):=by
  show chk _ (aH _)=_
  rw [h,bL,b8]
theorem ok:CtxOk Tryz.prog X:=aI tab (spC lng1X.spOk spN) dpN
theorem okM:MOk Tryz.prog X:=fun g sp h=>by cases h
theorem spec (l:List Cnd) (h:(nle (List.length l) 90000)=true):aj Tryz.prog E 88 [(.lst .cnd l),(.fn 89 [] [])] (.bool (List.any l dp)) [] :=
  ae ok okM Tryz.call88 Tryz.func88 (by kernel_rfl) (by kernel_rfl) (by kernel_rfl) (by show 2≤9; decide) (by decide) (by rfl) ((run l).trans (f0_eq l h))
noncomputable def sp:Sp U El:=fun args k=>match args with
  | [.lst .cnd l,.fn 89 [] []]=>chk (nle (List.length l) 90000) (k (.bool (List.any l dp)) [])
  | _=>none
theorem spOk:SpOk Tryz.prog E 88 sp where
  det:=fun vs=>by
    unfold sp
    split
    · exact aY _ _ _
    · exact ⟨none,fun _=>rfl⟩
  ok:=fun vs k r h=>by
    unfold sp at h
    split at h
    · obtain ⟨h1, h2⟩ := af h
      exact ⟨_,_,spec _ h1,h2⟩
    · cases h
end lng1C
namespace long
noncomputable def bd:Code:=(Tryz.f43.body).getD .skip
noncomputable def X:Ctx U El:=⟨E,tds,zeros,eqs,aC [(88,lng1C.sp)],100000,24,ap [],fun _=>none⟩
noncomputable def nmR:Norm U:=⟨[],[2],[],[],[],[],[]⟩
noncomputable def RR:ab U El:=fun st=>aE nmR st (aD [2] [])
noncomputable def fr0 (r:Rule):St U El:=⟨[(0,(.agg [(.str r.rn),(.lst .cnd r.rw),(.str r.rl),(.int .i64 r.rs)]))],[]⟩
noncomputable def sh0 (r:Rule):R :=
  aa (ilt (25:Int) (Int.ofNat (List.length r.rw))) (some ((.bool true),[])) (aa (ilt (100:Int) (Int.ofNat (List.length r.rn))) (some ((.bool true),[])) (aa (ilt (100:Int) (Int.ofNat (List.length r.rl))) (some ((.bool true),[])) (chk (nle (List.length r.rw) 90000) (some ((.bool (List.any r.rw dp)),[])))))
theorem P0 (r):ac X (cdp [] bd) .d (fr0 r) RR (fun _ _=>none) RR=sh0 r:=by kernel_rfl
noncomputable def f0 (r:Rule):R:=sh0 r
theorem T0 (r):ac X bd .d (fr0 r) RR (fun _ _=>none) RR=f0 r:=by
  refine (P0 r).trans ?_
  show _=sh0 r
  rfl
theorem run (r):aJ X bd .d nmR [2] [] [(.agg [(.str r.rn),(.lst .cnd r.rw),(.str r.rl),(.int .i64 r.rs)])]=f0 r:=T0 r
theorem f0_eq (r:Rule):f0 r=aH (dV r):=by
  show sh0 r=_
  unfold sh0 dV
  by_cases h:(25:Int) < Int.ofNat r.rw.length
  · rw [aX h]; rfl
  · rw [bE (show r.rw.length ≤ 90000 by simp at h; omega), bL]
    simp only [oB,cOr]
theorem ok:CtxOk Tryz.prog X:=aI tab (spC lng1C.spOk spN) dpN
theorem okM:MOk Tryz.prog X:=fun g sp h=>by cases h
theorem spec (r:Rule):aj Tryz.prog E 43 [(.agg [(.str r.rn),(.lst .cnd r.rw),(.str r.rl),(.int .i64 r.rs)])] (.bool (dV r)) [] :=
  ae ok okM Tryz.call43 Tryz.func43 (by kernel_rfl) (by kernel_rfl) (by kernel_rfl) (by show 1≤24; decide) (by decide) (by rfl) ((run r).trans (f0_eq r))
noncomputable def sp:Sp U El:=fun args k=>match args with
  | [.agg [.str r_rn,.lst .cnd r_rw,.str r_rl,.int .i64 r_rs]]=>k (.bool (dV (⟨r_rn,r_rw,r_rl,r_rs⟩:Rule))) []
  | _=>none
theorem spOk:SpOk Tryz.prog E 43 sp where
  det:=fun vs=>by
    unfold sp
    split
    · exact ⟨some (_,_),fun _=>rfl⟩
    · exact ⟨none,fun _=>rfl⟩
  ok:=fun vs k r h=>by
    unfold sp at h
    split at h
    · exact ⟨_,_,spec ⟨_,_,_,_⟩,h⟩
    · cases h
end long
namespace longX
noncomputable def bd:Code:=(Tryz.f111.body).getD .skip
noncomputable def X:Ctx U El:=⟨E,tds,zeros,eqs,aC [(43,long.sp)],100000,19,ap [],fun _=>none⟩
noncomputable def nmR:Norm U:=⟨[],[4],[],[],[],[],[]⟩
noncomputable def RR:ab U El:=fun st=>aE nmR st (aD [4] [])
noncomputable def nm1:Norm U:=⟨[],[],[],[],[],[],[]⟩
noncomputable def nm2:Norm U:=⟨[],[0,1,7,8],[],[],[],[],[]⟩
abbrev Y1:=R
abbrev Y2:=(List Rule)→Int→Int→R
noncomputable def fr0 (l:List Rule):St U El:=⟨[(0,(.lst .rule l)),(1,(.fn 43 [] []))],[]⟩
noncomputable def fr1:St U El:=⟨[],[]⟩
noncomputable def fr2 (s0:List Rule) (x7:Int) (x8:Int):St U El:=⟨[(0,(.lst .rule s0)),(1,(.fn 43 [] [])),(7,(.int .i64 x7)),(8,(.int .i64 x8))],[]⟩
noncomputable def sh0 (l:List Rule) (k2:Y2):R :=
  k2 l (Int.ofNat (List.length l)) (0:Int)
noncomputable def sh1:R :=
  some ((.int .i64 (-1:Int)),[])
noncomputable def sh2 (s0:List Rule) (x7:Int) (x8:Int) (k1:Y1) (k2:Y2):R :=
  aa (ilt x8 x7) (chk (inb x8 (List.length s0)) (aa (dV (List.getD s0 (Int.toNat x8) az)) (some ((.int .i64 x8),[])) (k2 s0 x7 (IntKind.wrap .i64 (x8+(1:Int)))))) (k1)
noncomputable def it2 (Kb1:ab U El) (n:Nat):ab U El:=bw nm2 (fun st' K'=>ac X (cdp [1,0,1,0,0] bd) .d st' K' (aq 0 (ah nm1 Kb1) (fun _ _=>none)) RR) n
noncomputable def ct1:ab U El:=fun st=>ac X (cdp [1,1] bd) .d st RR (fun _ _=>none) RR
theorem P0 (l):ac X (cdp [] bd) (.seq none .d (.seq (some nm1) (.seq none .d (.block (.loop nm2 .d))) .d)) (fr0 l) RR (fun _ _=>none) RR=sh0 l (fun y0 y1 y2=>(hid (it2 (hid ct1) 100000)) (fr2 y0 y1 y2)):=by kernel_rfl
theorem P1:ct1 (fr1)=sh1:=by kernel_rfl
theorem P2 (s0 x7 x8) (Kb1 Kb2:ab U El):ac X (cdp [1,0,1,0,0] bd) .d (fr2 s0 x7 x8) (ah nm2 Kb2) (aq 0 (ah nm1 Kb1) (fun _ _=>none)) RR=sh2 s0 x7 x8 (Kb1 (fr1)) (fun y0 y1 y2=>Kb2 (fr2 y0 y1 y2)):=by kernel_rfl
noncomputable def f1:R:=sh1
noncomputable def f2:Nat→Y2
  | 0=>fun _ _ _=>none
  | n+1=>fun s0 x7 x8=>sh2 s0 x7 x8 f1 (f2 n)
noncomputable def f0 (l:List Rule):R:=sh0 l (f2 100000)
theorem T1:(hid ct1) (fr1)=f1:=by
  refine (congrFun (ai _) _).trans <| (P1).trans ?_
  show _=sh1
  rfl
theorem T2:∀ (n:Nat),∀ s0 x7 x8,it2 (hid ct1) n (fr2 s0 x7 x8)=f2 n s0 x7 x8:=by
  intro n
  induction n with
  | zero=>intros; rfl
  | succ n ih =>
    intro s0 x7 x8
    refine (P2 s0 x7 x8 (hid ct1) (it2 (hid ct1) n)).trans ?_
    show _=sh2 s0 x7 x8 f1 (f2 n)
    simp only [T1,ih]
theorem H2 (s0 x7 x8):hid (it2 (hid ct1) 100000) (fr2 s0 x7 x8)=f2 100000 s0 x7 x8:=(congrFun (ai _) _).trans (T2 100000 s0 x7 x8)
theorem T0 (l):ac X bd (.seq none .d (.seq (some nm1) (.seq none .d (.block (.loop nm2 .d))) .d)) (fr0 l) RR (fun _ _=>none) RR=f0 l:=by
  refine (P0 l).trans ?_
  show _=sh0 l (f2 100000)
  simp only [H2]
theorem run (l):aJ X bd (.seq none .d (.seq (some nm1) (.seq none .d (.block (.loop nm2 .d))) .d)) nmR [4] [] [(.lst .rule l),(.fn 43 [] [])]=f0 l:=T0 l
theorem f0_eq (l:List Rule) (h:(nle (List.length l) 90000)=true):f0 l=bH (aN dV 0 l):=by
  have hl:=bQ h
  refine (bu l (by omega) (fun n_ (_:Unit) i_=>f2 n_ l (Int.ofNat l.length) i_) _ (fun _=>bH (-1)) (fun n_ u_ i_ hi_ => ?_) (fun n_ u_ => ?_) 100000 0 () (by omega) (by omega)).trans (bM dV bH l 0)
  · show sh2 l (Int.ofNat l.length) i_ f1 (f2 n_) = _
    unfold sh2
    rw [aX (by simp; omega),aW hi_,ak,ar hi_]
    rfl
  · show sh2 l (Int.ofNat l.length) (l.length : Int) f1 (f2 n_) = _
    unfold sh2
    rw [aR (by simp)]
    rfl
theorem ok:CtxOk Tryz.prog X:=aI tab (spC long.spOk spN) dpN
theorem okM:MOk Tryz.prog X:=fun g sp h=>by cases h
theorem spec (l:List Rule) (h:(nle (List.length l) 90000)=true):aj Tryz.prog E 111 [(.lst .rule l),(.fn 43 [] [])] (.int .i64 (aN dV 0 l)) [] :=
  ae ok okM Tryz.call111 Tryz.func111 (by kernel_rfl) (by kernel_rfl) (by kernel_rfl) (by show 2≤19; decide) (by decide) (by rfl) ((run l).trans (f0_eq l h))
noncomputable def sp:Sp U El:=fun args k=>match args with
  | [.lst .rule l,.fn 43 [] []]=>chk (nle (List.length l) 90000) (k (.int .i64 (aN dV 0 l)) [])
  | _=>none
theorem spOk:SpOk Tryz.prog E 111 sp where
  det:=fun vs=>by
    unfold sp
    split
    · exact aY _ _ _
    · exact ⟨none,fun _=>rfl⟩
  ok:=fun vs k r h=>by
    unfold sp at h
    split at h
    · obtain ⟨h1, h2⟩ := af h
      exact ⟨_,_,spec _ h1,h2⟩
    · cases h
end longX
namespace longC
noncomputable def bd:Code:=(Tryz.f61.body).getD .skip
noncomputable def X:Ctx U El:=⟨E,tds,zeros,eqs,aC [(111,longX.sp)],100000,9,ap [],fun _=>none⟩
noncomputable def nmR:Norm U:=⟨[],[4],[],[],[],[],[]⟩
noncomputable def RR:ab U El:=fun st=>aE nmR st (aD [4] [])
noncomputable def fr0 (l:List Rule):St U El:=⟨[(0,(.lst .rule l)),(1,(.fn 43 [] []))],[]⟩
noncomputable def sh0 (l:List Rule):R :=
  chk (nle (List.length l) 90000) (some ((.bool (ile (0:Int) (aN dV 0 l))),[]))
theorem P0 (l):ac X (cdp [] bd) .d (fr0 l) RR (fun _ _=>none) RR=sh0 l:=by kernel_rfl
noncomputable def f0 (l:List Rule):R:=sh0 l
theorem T0 (l):ac X bd .d (fr0 l) RR (fun _ _=>none) RR=f0 l:=by
  refine (P0 l).trans ?_
  show _=sh0 l
  rfl
theorem run (l):aJ X bd .d nmR [4] [] [(.lst .rule l),(.fn 43 [] [])]=f0 l:=T0 l
theorem f0_eq (l:List Rule) (h:(nle (List.length l) 90000)=true):f0 l=aH (List.any l dV):=by
  show chk _ (aH _)=_
  rw [h,bL,b8]
theorem ok:CtxOk Tryz.prog X:=aI tab (spC longX.spOk spN) dpN
theorem okM:MOk Tryz.prog X:=fun g sp h=>by cases h
theorem spec (l:List Rule) (h:(nle (List.length l) 90000)=true):aj Tryz.prog E 61 [(.lst .rule l),(.fn 43 [] [])] (.bool (List.any l dV)) [] :=
  ae ok okM Tryz.call61 Tryz.func61 (by kernel_rfl) (by kernel_rfl) (by kernel_rfl) (by show 2≤9; decide) (by decide) (by rfl) ((run l).trans (f0_eq l h))
noncomputable def sp:Sp U El:=fun args k=>match args with
  | [.lst .rule l,.fn 43 [] []]=>chk (nle (List.length l) 90000) (k (.bool (List.any l dV)) [])
  | _=>none
theorem spOk:SpOk Tryz.prog E 61 sp where
  det:=fun vs=>by
    unfold sp
    split
    · exact aY _ _ _
    · exact ⟨none,fun _=>rfl⟩
  ok:=fun vs k r h=>by
    unfold sp at h
    split at h
    · obtain ⟨h1, h2⟩ := af h
      exact ⟨_,_,spec _ h1,h2⟩
    · cases h
end longC
namespace large
noncomputable def bd:Code:=(Tryz.f13.body).getD .skip
noncomputable def X:Ctx U El:=⟨E,tds,zeros,eqs,aC [(57,lg1C.sp),(59,lg2C.sp),(61,longC.sp)],100000,42,ap [],fun _=>none⟩
noncomputable def nmR:Norm U:=⟨[],[4],[],[],[],[],[]⟩
noncomputable def RR:ab U El:=fun st=>aE nmR st (aD [4] [])
noncomputable def nm1:Norm U:=⟨[],[0,3],[3],[],[],[],[(3,0,.node),(3,1,.link)]⟩
abbrev Y1:=(List Rule)→(List Node)→(List Lnk)→R
noncomputable def fr0 (l:List Rule) (n:Net):St U El:=⟨[(0,(.lst .rule l)),(1,(.agg [(.lst .node n.nds),(.lst .link n.lks)]))],[]⟩
noncomputable def fr1 (l0:List Rule) (dA:List Node) (eA:List Lnk):St U El:=⟨[(0,(.lst .rule l0)),(3,(.ptr 3 0))],[(3,(.box 0 [(.lst .node dA),(.lst .link eA)]))]⟩
noncomputable def sh0 (l:List Rule) (n:Net) (k1:Y1):R :=
  aa (ilt (12:Int) (Int.ofNat (List.length n.nds))) (some ((.bool true),[])) (aa (ilt (20:Int) (Int.ofNat (List.length n.lks))) (some ((.bool true),[])) (aa (ilt (8:Int) (Int.ofNat (List.length l))) (aa (ile (Int.ofNat (List.length l)) (60:Int)) (some ((.bool true),[])) (aa (ilt (70:Int) (Int.ofNat (List.length l))) (some ((.bool true),[])) (k1 l n.nds n.lks))) (aa (ilt (70:Int) (Int.ofNat (List.length l))) (some ((.bool true),[])) (k1 l n.nds n.lks))))
noncomputable def sh1 (l0:List Rule) (dA:List Node) (eA:List Lnk):R :=
  chk (nle (List.length dA) 90000) (aa (List.any dA cG) (some ((.bool true),[])) (chk (nle (List.length eA) 90000) (aa (List.any eA ci) (some ((.bool true),[])) (chk (nle (List.length l0) 90000) (some ((.bool (List.any l0 dV)),[]))))))
noncomputable def ct1:ab U El:=fun st=>ac X (cdp [1,1] bd) .d st RR (fun _ _=>none) RR
theorem P0 (l n):ac X (cdp [] bd) (.seq none .d (.seq (some nm1) .d .d)) (fr0 l n) RR (fun _ _=>none) RR=sh0 l n (fun y0 y1 y2=>(hid ct1) (fr1 y0 y1 y2)):=by kernel_rfl
theorem P1 (l0 dA eA):ct1 (fr1 l0 dA eA)=sh1 l0 dA eA:=by kernel_rfl
noncomputable def f1 (l0:List Rule) (dA:List Node) (eA:List Lnk):R:=sh1 l0 dA eA
noncomputable def f0 (l:List Rule) (n:Net):R:=sh0 l n f1
theorem T1 (l0 dA eA):(hid ct1) (fr1 l0 dA eA)=f1 l0 dA eA:=by
  refine (congrFun (ai _) _).trans <| (P1 l0 dA eA).trans ?_
  show _=sh1 l0 dA eA
  rfl
theorem T0 (l n):ac X bd (.seq none .d (.seq (some nm1) .d .d)) (fr0 l n) RR (fun _ _=>none) RR=f0 l n:=by
  refine (P0 l n).trans ?_
  show _=sh0 l n f1
  simp only [T1]
theorem run (l n):aJ X bd (.seq none .d (.seq (some nm1) .d .d)) nmR [4] [] [(.lst .rule l),(.agg [(.lst .node n.nds),(.lst .link n.lks)])]=f0 l n:=T0 l n
theorem f0_eq (l : List Rule) (n : Net) : f0 l n = aH (d5 l n) := by
  show sh0 l n f1=_
  unfold sh0 d5
  by_cases h1:(12:Int) < Int.ofNat n.nds.length
  · rw [aX h1]; rfl
  · by_cases h2 : (20 : Int) < Int.ofNat n.lks.length
    · rw [aX h2]; cases ilt 12 (Int.ofNat n.nds.length)<;>rfl
    · by_cases h3 : (70 : Int) < Int.ofNat l.length
      · rw [aR h1, aR h2, aX h3]
        cases ilt 8 (Int.ofNat l.length)<;>cases ile (Int.ofNat l.length) 60<;>rfl
      · have hf : f1 l n.nds n.lks = aH (List.any n.nds cG || (List.any n.lks ci || List.any l dV)) := by
          show sh1 l n.nds n.lks=_
          unfold sh1
          rw [bE (show n.nds.length≤90000 by simp at h1; omega),bE (show n.lks.length≤90000 by simp at h2; omega),bE (show l.length≤90000 by simp at h3; omega)]
          simp only [bL,oB,cOr]
        rw [aR h1,aR h2,aR h3,hf]
        cases ilt 8 (Int.ofNat l.length)<;>cases ile (Int.ofNat l.length) 60<;>rfl
theorem ok:CtxOk Tryz.prog X:=aI tab (spC lg1C.spOk (spC lg2C.spOk (spC longC.spOk spN))) dpN
theorem okM:MOk Tryz.prog X:=fun g sp h=>by cases h
theorem spec (l:List Rule) (n:Net):aj Tryz.prog E 13 [(.lst .rule l),(.agg [(.lst .node n.nds),(.lst .link n.lks)])] (.bool (d5 l n)) [] :=
  ae ok okM Tryz.call13 Tryz.func13 (by kernel_rfl) (by kernel_rfl) (by kernel_rfl) (by show 2≤42; decide) (by decide) (by rfl) ((run l n).trans (f0_eq l n))
noncomputable def sp:Sp U El:=fun args k=>match args with
  | [.lst .rule l,.agg [.lst .node n_nds,.lst .link n_lks]]=>k (.bool (d5 l (⟨n_nds,n_lks⟩:Net))) []
  | _=>none
theorem spOk:SpOk Tryz.prog E 13 sp where
  det:=fun vs=>by
    unfold sp
    split
    · exact ⟨some (_,_),fun _=>rfl⟩
    · exact ⟨none,fun _=>rfl⟩
  ok:=fun vs k r h=>by
    unfold sp at h
    split at h
    · exact ⟨_,_,spec _ ⟨_,_⟩,h⟩
    · cases h
end large
namespace lev1
noncomputable def bd:Code:=(Tryz.f173.body).getD .skip
noncomputable def X:Ctx U El:=⟨E,tds,zeros,eqs,aC [],100000,9,ap [],fun _=>none⟩
noncomputable def nmR:Norm U:=⟨[],[2],[],[],[],[],[]⟩
noncomputable def RR:ab U El:=fun st=>aE nmR st (aD [2] [])
noncomputable def fr0 (x:Int):St U El:=⟨[(0,(.int .i64 x))],[]⟩
noncomputable def sh0 (x:Int):R :=
  aa (ilt x (-4194304:Int)) (some ((.bool true),[])) (some ((.bool (ilt (4194304:Int) x)),[]))
theorem P0 (x):ac X (cdp [] bd) .d (fr0 x) RR (fun _ _=>none) RR=sh0 x:=by kernel_rfl
noncomputable def f0 (x:Int):R:=sh0 x
theorem T0 (x):ac X bd .d (fr0 x) RR (fun _ _=>none) RR=f0 x:=by
  refine (P0 x).trans ?_
  show _=sh0 x
  rfl
theorem run (x):aJ X bd .d nmR [2] [] [(.int .i64 x)]=f0 x:=T0 x
theorem f0_eq (x:Int):f0 x=aH (cf x):=cOr aH _ _
theorem ok:CtxOk Tryz.prog X:=aI tab spN dpN
theorem okM:MOk Tryz.prog X:=fun g sp h=>by cases h
theorem spec (x:Int):aj Tryz.prog E 173 [(.int .i64 x)] (.bool (cf x)) [] :=
  ae ok okM Tryz.call173 Tryz.func173 (by kernel_rfl) (by kernel_rfl) (by kernel_rfl) (by show 1≤9; decide) (by decide) (by rfl) ((run x).trans (f0_eq x))
noncomputable def sp:Sp U El:=fun args k=>match args with
  | [.int .i64 x]=>k (.bool (cf x)) []
  | _=>none
theorem spOk:SpOk Tryz.prog E 173 sp where
  det:=fun vs=>by
    unfold sp
    split
    · exact ⟨some (_,_),fun _=>rfl⟩
    · exact ⟨none,fun _=>rfl⟩
  ok:=fun vs k r h=>by
    unfold sp at h
    split at h
    · exact ⟨_,_,spec _,h⟩
    · cases h
end lev1
namespace lev1X
noncomputable def bd:Code:=(Tryz.f80.body).getD .skip
noncomputable def X:Ctx U El:=⟨E,tds,zeros,eqs,aC [(173,lev1.sp)],100000,19,ap [],fun _=>none⟩
noncomputable def nmR:Norm U:=⟨[],[4],[],[],[],[],[]⟩
noncomputable def RR:ab U El:=fun st=>aE nmR st (aD [4] [])
noncomputable def nm1:Norm U:=⟨[],[],[],[],[],[],[]⟩
noncomputable def nm2:Norm U:=⟨[],[0,1,7,8],[],[],[],[],[]⟩
abbrev Y1:=R
abbrev Y2:=(List Int)→Int→Int→R
noncomputable def fr0 (l:List Int):St U El:=⟨[(0,(.lst .int l)),(1,(.fn 173 [] []))],[]⟩
noncomputable def fr1:St U El:=⟨[],[]⟩
noncomputable def fr2 (s0:List Int) (x7:Int) (x8:Int):St U El:=⟨[(0,(.lst .int s0)),(1,(.fn 173 [] [])),(7,(.int .i64 x7)),(8,(.int .i64 x8))],[]⟩
noncomputable def sh0 (l:List Int) (k2:Y2):R :=
  k2 l (Int.ofNat (List.length l)) (0:Int)
noncomputable def sh1:R :=
  some ((.int .i64 (-1:Int)),[])
noncomputable def sh2 (s0:List Int) (x7:Int) (x8:Int) (k1:Y1) (k2:Y2):R :=
  aa (ilt x8 x7) (chk (inb x8 (List.length s0)) (aa (cf (List.getD s0 (Int.toNat x8) aL)) (some ((.int .i64 x8),[])) (k2 s0 x7 (IntKind.wrap .i64 (x8+(1:Int)))))) (k1)
noncomputable def it2 (Kb1:ab U El) (n:Nat):ab U El:=bw nm2 (fun st' K'=>ac X (cdp [1,0,1,0,0] bd) .d st' K' (aq 0 (ah nm1 Kb1) (fun _ _=>none)) RR) n
noncomputable def ct1:ab U El:=fun st=>ac X (cdp [1,1] bd) .d st RR (fun _ _=>none) RR
theorem P0 (l):ac X (cdp [] bd) (.seq none .d (.seq (some nm1) (.seq none .d (.block (.loop nm2 .d))) .d)) (fr0 l) RR (fun _ _=>none) RR=sh0 l (fun y0 y1 y2=>(hid (it2 (hid ct1) 100000)) (fr2 y0 y1 y2)):=by kernel_rfl
theorem P1:ct1 (fr1)=sh1:=by kernel_rfl
theorem P2 (s0 x7 x8) (Kb1 Kb2:ab U El):ac X (cdp [1,0,1,0,0] bd) .d (fr2 s0 x7 x8) (ah nm2 Kb2) (aq 0 (ah nm1 Kb1) (fun _ _=>none)) RR=sh2 s0 x7 x8 (Kb1 (fr1)) (fun y0 y1 y2=>Kb2 (fr2 y0 y1 y2)):=by kernel_rfl
noncomputable def f1:R:=sh1
noncomputable def f2:Nat→Y2
  | 0=>fun _ _ _=>none
  | n+1=>fun s0 x7 x8=>sh2 s0 x7 x8 f1 (f2 n)
noncomputable def f0 (l:List Int):R:=sh0 l (f2 100000)
theorem T1:(hid ct1) (fr1)=f1:=by
  refine (congrFun (ai _) _).trans <| (P1).trans ?_
  show _=sh1
  rfl
theorem T2:∀ (n:Nat),∀ s0 x7 x8,it2 (hid ct1) n (fr2 s0 x7 x8)=f2 n s0 x7 x8:=by
  intro n
  induction n with
  | zero=>intros; rfl
  | succ n ih =>
    intro s0 x7 x8
    refine (P2 s0 x7 x8 (hid ct1) (it2 (hid ct1) n)).trans ?_
    show _=sh2 s0 x7 x8 f1 (f2 n)
    simp only [T1,ih]
theorem H2 (s0 x7 x8):hid (it2 (hid ct1) 100000) (fr2 s0 x7 x8)=f2 100000 s0 x7 x8:=(congrFun (ai _) _).trans (T2 100000 s0 x7 x8)
theorem T0 (l):ac X bd (.seq none .d (.seq (some nm1) (.seq none .d (.block (.loop nm2 .d))) .d)) (fr0 l) RR (fun _ _=>none) RR=f0 l:=by
  refine (P0 l).trans ?_
  show _=sh0 l (f2 100000)
  simp only [H2]
theorem run (l):aJ X bd (.seq none .d (.seq (some nm1) (.seq none .d (.block (.loop nm2 .d))) .d)) nmR [4] [] [(.lst .int l),(.fn 173 [] [])]=f0 l:=T0 l
theorem f0_eq (l:List Int) (h:(nle (List.length l) 90000)=true):f0 l=bH (aN cf 0 l):=by
  have hl:=bQ h
  refine (bu l (by omega) (fun n_ (_:Unit) i_=>f2 n_ l (Int.ofNat l.length) i_) _ (fun _=>bH (-1)) (fun n_ u_ i_ hi_ => ?_) (fun n_ u_ => ?_) 100000 0 () (by omega) (by omega)).trans (bM cf bH l 0)
  · show sh2 l (Int.ofNat l.length) i_ f1 (f2 n_) = _
    unfold sh2
    rw [aX (by simp; omega),aW hi_,ak,ar hi_]
    rfl
  · show sh2 l (Int.ofNat l.length) (l.length : Int) f1 (f2 n_) = _
    unfold sh2
    rw [aR (by simp)]
    rfl
theorem ok:CtxOk Tryz.prog X:=aI tab (spC lev1.spOk spN) dpN
theorem okM:MOk Tryz.prog X:=fun g sp h=>by cases h
theorem spec (l:List Int) (h:(nle (List.length l) 90000)=true):aj Tryz.prog E 80 [(.lst .int l),(.fn 173 [] [])] (.int .i64 (aN cf 0 l)) [] :=
  ae ok okM Tryz.call80 Tryz.func80 (by kernel_rfl) (by kernel_rfl) (by kernel_rfl) (by show 2≤19; decide) (by decide) (by rfl) ((run l).trans (f0_eq l h))
noncomputable def sp:Sp U El:=fun args k=>match args with
  | [.lst .int l,.fn 173 [] []]=>chk (nle (List.length l) 90000) (k (.int .i64 (aN cf 0 l)) [])
  | _=>none
theorem spOk:SpOk Tryz.prog E 80 sp where
  det:=fun vs=>by
    unfold sp
    split
    · exact aY _ _ _
    · exact ⟨none,fun _=>rfl⟩
  ok:=fun vs k r h=>by
    unfold sp at h
    split at h
    · obtain ⟨h1, h2⟩ := af h
      exact ⟨_,_,spec _ h1,h2⟩
    · cases h
end lev1X
namespace lev1C
noncomputable def bd:Code:=(Tryz.f35.body).getD .skip
noncomputable def X:Ctx U El:=⟨E,tds,zeros,eqs,aC [(80,lev1X.sp)],100000,9,ap [],fun _=>none⟩
noncomputable def nmR:Norm U:=⟨[],[4],[],[],[],[],[]⟩
noncomputable def RR:ab U El:=fun st=>aE nmR st (aD [4] [])
noncomputable def fr0 (l:List Int):St U El:=⟨[(0,(.lst .int l)),(1,(.fn 173 [] []))],[]⟩
noncomputable def sh0 (l:List Int):R :=
  chk (nle (List.length l) 90000) (some ((.bool (ile (0:Int) (aN cf 0 l))),[]))
theorem P0 (l):ac X (cdp [] bd) .d (fr0 l) RR (fun _ _=>none) RR=sh0 l:=by kernel_rfl
noncomputable def f0 (l:List Int):R:=sh0 l
theorem T0 (l):ac X bd .d (fr0 l) RR (fun _ _=>none) RR=f0 l:=by
  refine (P0 l).trans ?_
  show _=sh0 l
  rfl
theorem run (l):aJ X bd .d nmR [4] [] [(.lst .int l),(.fn 173 [] [])]=f0 l:=T0 l
theorem f0_eq (l:List Int) (h:(nle (List.length l) 90000)=true):f0 l=aH (List.any l cf):=by
  show chk _ (aH _)=_
  rw [h,bL,b8]
theorem ok:CtxOk Tryz.prog X:=aI tab (spC lev1X.spOk spN) dpN
theorem okM:MOk Tryz.prog X:=fun g sp h=>by cases h
theorem spec (l:List Int) (h:(nle (List.length l) 90000)=true):aj Tryz.prog E 35 [(.lst .int l),(.fn 173 [] [])] (.bool (List.any l cf)) [] :=
  ae ok okM Tryz.call35 Tryz.func35 (by kernel_rfl) (by kernel_rfl) (by kernel_rfl) (by show 2≤9; decide) (by decide) (by rfl) ((run l).trans (f0_eq l h))
noncomputable def sp:Sp U El:=fun args k=>match args with
  | [.lst .int l,.fn 173 [] []]=>chk (nle (List.length l) 90000) (k (.bool (List.any l cf)) [])
  | _=>none
theorem spOk:SpOk Tryz.prog E 35 sp where
  det:=fun vs=>by
    unfold sp
    split
    · exact aY _ _ _
    · exact ⟨none,fun _=>rfl⟩
  ok:=fun vs k r h=>by
    unfold sp at h
    split at h
    · obtain ⟨h1, h2⟩ := af h
      exact ⟨_,_,spec _ h1,h2⟩
    · cases h
end lev1C
namespace level
noncomputable def bd:Code:=(Tryz.f149.body).getD .skip
noncomputable def X:Ctx U El:=⟨E,tds,zeros,eqs,aC [(35,lev1C.sp)],100000,6,ap [],fun _=>none⟩
noncomputable def nmR:Norm U:=⟨[],[2],[],[],[],[],[]⟩
noncomputable def RR:ab U El:=fun st=>aE nmR st (aD [2] [])
noncomputable def fr0 (l:List Int):St U El:=⟨[(0,(.lst .int l))],[]⟩
noncomputable def sh0 (l:List Int):R :=
  chk (nle (List.length l) 90000) (some ((.bool (!(List.any l cf))),[]))
theorem P0 (l):ac X (cdp [] bd) .d (fr0 l) RR (fun _ _=>none) RR=sh0 l:=by kernel_rfl
noncomputable def f0 (l:List Int):R:=sh0 l
theorem T0 (l):ac X bd .d (fr0 l) RR (fun _ _=>none) RR=f0 l:=by
  refine (P0 l).trans ?_
  show _=sh0 l
  rfl
theorem run (l):aJ X bd .d nmR [2] [] [(.lst .int l)]=f0 l:=T0 l
theorem f0_eq (l:List Int) (h:nle (List.length l) 90000=true):f0 l=aH (!(List.any l cf)):=by
  show chk _ (aH _)=_
  rw [h]; rfl
theorem ok:CtxOk Tryz.prog X:=aI tab (spC lev1C.spOk spN) dpN
theorem okM:MOk Tryz.prog X:=fun g sp h=>by cases h
theorem spec (l:List Int) (h:(nle (List.length l) 90000)=true):aj Tryz.prog E 149 [(.lst .int l)] (.bool (!(List.any l cf))) [] :=
  ae ok okM Tryz.call149 Tryz.func149 (by kernel_rfl) (by kernel_rfl) (by kernel_rfl) (by show 1≤6; decide) (by decide) (by rfl) ((run l).trans (f0_eq l h))
noncomputable def sp:Sp U El:=fun args k=>match args with
  | [.lst .int l]=>chk (nle (List.length l) 90000) (k (.bool (!(List.any l cf))) [])
  | _=>none
theorem spOk:SpOk Tryz.prog E 149 sp where
  det:=fun vs=>by
    unfold sp
    split
    · exact aY _ _ _
    · exact ⟨none,fun _=>rfl⟩
  ok:=fun vs k r h=>by
    unfold sp at h
    split at h
    · obtain ⟨h1, h2⟩ := af h
      exact ⟨_,_,spec _ h1,h2⟩
    · cases h
end level
namespace nd1
noncomputable def bd:Code:=(Tryz.f151.body).getD .skip
noncomputable def X:Ctx U El:=⟨E,tds,zeros,eqs,aC [],100000,8,ap [],fun _=>none⟩
noncomputable def nmR:Norm U:=⟨[],[3],[],[],[],[],[]⟩
noncomputable def RR:ab U El:=fun st=>aE nmR st (aD [3] [])
noncomputable def fr0 (x:Node) (s:List UInt8):St U El:=⟨[(0,(.agg [(.str x.nn),(.int .i64 x.nk),(.int .i64 x.nx),(.int .i64 x.ny),(.int .i64 x.ni),(.int .i64 x.ng),(.lst .knot x.nh),(.bool x.np),(.int .i64 x.nr)])),(1,(.pcs [(.str s)] 0))],[]⟩
noncomputable def sh0 (x:Node) (s:List UInt8):R :=
  some ((.bool (x.nn == s)),[])
theorem P0 (x s):ac X (cdp [] bd) .d (fr0 x s) RR (fun _ _=>none) RR=sh0 x s:=by kernel_rfl
noncomputable def f0 (x:Node) (s:List UInt8):R:=sh0 x s
theorem T0 (x s):ac X bd .d (fr0 x s) RR (fun _ _=>none) RR=f0 x s:=by
  refine (P0 x s).trans ?_
  show _=sh0 x s
  rfl
theorem run (x s):aJ X bd .d nmR [3] [] [(.agg [(.str x.nn),(.int .i64 x.nk),(.int .i64 x.nx),(.int .i64 x.ny),(.int .i64 x.ni),(.int .i64 x.ng),(.lst .knot x.nh),(.bool x.np),(.int .i64 x.nr)]),(.pcs [(.str s)] 0)]=f0 x s:=T0 x s
theorem f0_eq (x:Node) (s:List UInt8):f0 x s=aH (bk s x):=rfl
theorem ok:CtxOk Tryz.prog X:=aI tab spN dpN
theorem okM:MOk Tryz.prog X:=fun g sp h=>by cases h
theorem spec (x:Node) (s:List UInt8):aj Tryz.prog E 151 [(.agg [(.str x.nn),(.int .i64 x.nk),(.int .i64 x.nx),(.int .i64 x.ny),(.int .i64 x.ni),(.int .i64 x.ng),(.lst .knot x.nh),(.bool x.np),(.int .i64 x.nr)]),(.pcs [(.str s)] 0)] (.bool ((bk s) x)) [] :=
  ae ok okM Tryz.call151 Tryz.func151 (by kernel_rfl) (by kernel_rfl) (by kernel_rfl) (by show 2≤8; decide) (by decide) (by rfl) ((run x s).trans (f0_eq x s))
noncomputable def sp:Sp U El:=fun args k=>match args with
  | [.agg [.str x_nn,.int .i64 x_nk,.int .i64 x_nx,.int .i64 x_ny,.int .i64 x_ni,.int .i64 x_ng,.lst .knot x_nh,.bool x_np,.int .i64 x_nr],.pcs [.str s] 0]=>k (.bool ((bk s) (⟨x_nn,x_nk,x_nx,x_ny,x_ni,x_ng,x_nh,x_np,x_nr⟩:Node))) []
  | _=>none
theorem spOk:SpOk Tryz.prog E 151 sp where
  det:=fun vs=>by
    unfold sp
    split
    · exact ⟨some (_,_),fun _=>rfl⟩
    · exact ⟨none,fun _=>rfl⟩
  ok:=fun vs k r h=>by
    unfold sp at h
    split at h
    · exact ⟨_,_,spec ⟨_,_,_,_,_,_,_,_,_⟩ _,h⟩
    · cases h
end nd1
namespace nd1X
noncomputable def bd:Code:=(Tryz.f109.body).getD .skip
noncomputable def X:Ctx U El:=⟨E,tds,zeros,eqs,aC [(151,nd1.sp)],100000,19,ap [],fun _=>none⟩
noncomputable def nmR:Norm U:=⟨[],[4],[],[],[],[],[]⟩
noncomputable def RR:ab U El:=fun st=>aE nmR st (aD [4] [])
noncomputable def nm1:Norm U:=⟨[],[],[],[],[],[],[]⟩
noncomputable def nm2:Norm U:=⟨[],[0,1,7,8],[],[],[],[],[]⟩
abbrev Y1:=R
abbrev Y2:=(List Node)→(List UInt8)→Int→Int→R
noncomputable def fr0 (l:List Node) (s:List UInt8):St U El:=⟨[(0,(.lst .node l)),(1,(.fn 151 [] [(.pcs [(.str s)] 0)]))],[]⟩
noncomputable def fr1:St U El:=⟨[],[]⟩
noncomputable def fr2 (s0:List Node) (f1c_0:List UInt8) (x7:Int) (x8:Int):St U El:=⟨[(0,(.lst .node s0)),(1,(.fn 151 [] [(.pcs [(.str f1c_0)] 0)])),(7,(.int .i64 x7)),(8,(.int .i64 x8))],[]⟩
noncomputable def sh0 (l:List Node) (s:List UInt8) (k2:Y2):R :=
  k2 l s (Int.ofNat (List.length l)) (0:Int)
noncomputable def sh1:R :=
  some ((.int .i64 (-1:Int)),[])
noncomputable def sh2 (s0:List Node) (f1c_0:List UInt8) (x7:Int) (x8:Int) (k1:Y1) (k2:Y2):R :=
  aa (ilt x8 x7) (chk (inb x8 (List.length s0)) (aa ((bk f1c_0) (List.getD s0 (Int.toNat x8) aO)) (some ((.int .i64 x8),[])) (k2 s0 f1c_0 x7 (IntKind.wrap .i64 (x8+(1:Int)))))) (k1)
noncomputable def it2 (Kb1:ab U El) (n:Nat):ab U El:=bw nm2 (fun st' K'=>ac X (cdp [1,0,1,0,0] bd) .d st' K' (aq 0 (ah nm1 Kb1) (fun _ _=>none)) RR) n
noncomputable def ct1:ab U El:=fun st=>ac X (cdp [1,1] bd) .d st RR (fun _ _=>none) RR
theorem P0 (l s):ac X (cdp [] bd) (.seq none .d (.seq (some nm1) (.seq none .d (.block (.loop nm2 .d))) .d)) (fr0 l s) RR (fun _ _=>none) RR=sh0 l s (fun y0 y1 y2 y3=>(hid (it2 (hid ct1) 100000)) (fr2 y0 y1 y2 y3)):=by kernel_rfl
theorem P1:ct1 (fr1)=sh1:=by kernel_rfl
theorem P2 (s0 f1c_0 x7 x8) (Kb1 Kb2:ab U El):ac X (cdp [1,0,1,0,0] bd) .d (fr2 s0 f1c_0 x7 x8) (ah nm2 Kb2) (aq 0 (ah nm1 Kb1) (fun _ _=>none)) RR=sh2 s0 f1c_0 x7 x8 (Kb1 (fr1)) (fun y0 y1 y2 y3=>Kb2 (fr2 y0 y1 y2 y3)):=by kernel_rfl
noncomputable def f1:R:=sh1
noncomputable def f2:Nat→Y2
  | 0=>fun _ _ _ _=>none
  | n+1=>fun s0 f1c_0 x7 x8=>sh2 s0 f1c_0 x7 x8 f1 (f2 n)
noncomputable def f0 (l:List Node) (s:List UInt8):R:=sh0 l s (f2 100000)
theorem T1:(hid ct1) (fr1)=f1:=by
  refine (congrFun (ai _) _).trans <| (P1).trans ?_
  show _=sh1
  rfl
theorem T2:∀ (n:Nat),∀ s0 f1c_0 x7 x8,it2 (hid ct1) n (fr2 s0 f1c_0 x7 x8)=f2 n s0 f1c_0 x7 x8:=by
  intro n
  induction n with
  | zero=>intros; rfl
  | succ n ih =>
    intro s0 f1c_0 x7 x8
    refine (P2 s0 f1c_0 x7 x8 (hid ct1) (it2 (hid ct1) n)).trans ?_
    show _=sh2 s0 f1c_0 x7 x8 f1 (f2 n)
    simp only [T1,ih]
theorem H2 (s0 f1c_0 x7 x8):hid (it2 (hid ct1) 100000) (fr2 s0 f1c_0 x7 x8)=f2 100000 s0 f1c_0 x7 x8:=(congrFun (ai _) _).trans (T2 100000 s0 f1c_0 x7 x8)
theorem T0 (l s):ac X bd (.seq none .d (.seq (some nm1) (.seq none .d (.block (.loop nm2 .d))) .d)) (fr0 l s) RR (fun _ _=>none) RR=f0 l s:=by
  refine (P0 l s).trans ?_
  show _=sh0 l s (f2 100000)
  simp only [H2]
theorem run (l s):aJ X bd (.seq none .d (.seq (some nm1) (.seq none .d (.block (.loop nm2 .d))) .d)) nmR [4] [] [(.lst .node l),(.fn 151 [] [(.pcs [(.str s)] 0)])]=f0 l s:=T0 l s
theorem f0_eq (l:List Node) (s:List UInt8) (h:(nle (List.length l) 90000)=true):f0 l s=bH (aN (bk s) 0 l):=by
  have hl:=bQ h
  refine (bu l (by omega) (fun n_ (_:Unit) i_=>f2 n_ l s (Int.ofNat l.length) i_) _ (fun _=>bH (-1)) (fun n_ u_ i_ hi_ => ?_) (fun n_ u_ => ?_) 100000 0 () (by omega) (by omega)).trans (bM (bk s) bH l 0)
  · show sh2 l s (Int.ofNat l.length) i_ f1 (f2 n_) = _
    unfold sh2
    rw [aX (by simp; omega),aW hi_,ak,ar hi_]
    rfl
  · show sh2 l s (Int.ofNat l.length) (l.length : Int) f1 (f2 n_) = _
    unfold sh2
    rw [aR (by simp)]
    rfl
theorem ok:CtxOk Tryz.prog X:=aI tab (spC nd1.spOk spN) dpN
theorem okM:MOk Tryz.prog X:=fun g sp h=>by cases h
theorem spec (l:List Node) (s:List UInt8) (h:(nle (List.length l) 90000)=true):aj Tryz.prog E 109 [(.lst .node l),(.fn 151 [] [(.pcs [(.str s)] 0)])] (.int .i64 (aN (bk s) 0 l)) [] :=
  ae ok okM Tryz.call109 Tryz.func109 (by kernel_rfl) (by kernel_rfl) (by kernel_rfl) (by show 2≤19; decide) (by decide) (by rfl) ((run l s).trans (f0_eq l s h))
noncomputable def sp:Sp U El:=fun args k=>match args with
  | [.lst .node l,.fn 151 [] [.pcs [.str s] 0]]=>chk (nle (List.length l) 90000) (k (.int .i64 (aN (bk s) 0 l)) [])
  | _=>none
theorem spOk:SpOk Tryz.prog E 109 sp where
  det:=fun vs=>by
    unfold sp
    split
    · exact aY _ _ _
    · exact ⟨none,fun _=>rfl⟩
  ok:=fun vs k r h=>by
    unfold sp at h
    split at h
    · obtain ⟨h1, h2⟩ := af h
      exact ⟨_,_,spec _ _ h1,h2⟩
    · cases h
end nd1X
namespace lk1
noncomputable def bd:Code:=(Tryz.f140.body).getD .skip
noncomputable def X:Ctx U El:=⟨E,tds,zeros,eqs,aC [],100000,8,ap [],fun _=>none⟩
noncomputable def nmR:Norm U:=⟨[],[3],[],[],[],[],[]⟩
noncomputable def RR:ab U El:=fun st=>aE nmR st (aD [3] [])
noncomputable def fr0 (x:Lnk) (s:List UInt8):St U El:=⟨[(0,(.agg [(.str x.ln),(.str x.lf),(.str x.lt),(.int .i64 x.lk),(.int .i64 x.ll),(.int .i64 x.lu),(.int .i64 x.ld),(.str x.lc),(.int .i64 x.lw),(.int .i64 x.lh),(.lst .knot x.lv)])),(1,(.pcs [(.str s)] 0))],[]⟩
noncomputable def sh0 (x:Lnk) (s:List UInt8):R :=
  some ((.bool (x.ln == s)),[])
theorem P0 (x s):ac X (cdp [] bd) .d (fr0 x s) RR (fun _ _=>none) RR=sh0 x s:=by kernel_rfl
noncomputable def f0 (x:Lnk) (s:List UInt8):R:=sh0 x s
theorem T0 (x s):ac X bd .d (fr0 x s) RR (fun _ _=>none) RR=f0 x s:=by
  refine (P0 x s).trans ?_
  show _=sh0 x s
  rfl
theorem run (x s):aJ X bd .d nmR [3] [] [(.agg [(.str x.ln),(.str x.lf),(.str x.lt),(.int .i64 x.lk),(.int .i64 x.ll),(.int .i64 x.lu),(.int .i64 x.ld),(.str x.lc),(.int .i64 x.lw),(.int .i64 x.lh),(.lst .knot x.lv)]),(.pcs [(.str s)] 0)]=f0 x s:=T0 x s
theorem f0_eq (x:Lnk) (s:List UInt8):f0 x s=aH (bU s x):=rfl
theorem ok:CtxOk Tryz.prog X:=aI tab spN dpN
theorem okM:MOk Tryz.prog X:=fun g sp h=>by cases h
theorem spec (x:Lnk) (s:List UInt8):aj Tryz.prog E 140 [(.agg [(.str x.ln),(.str x.lf),(.str x.lt),(.int .i64 x.lk),(.int .i64 x.ll),(.int .i64 x.lu),(.int .i64 x.ld),(.str x.lc),(.int .i64 x.lw),(.int .i64 x.lh),(.lst .knot x.lv)]),(.pcs [(.str s)] 0)] (.bool ((bU s) x)) [] :=
  ae ok okM Tryz.call140 Tryz.func140 (by kernel_rfl) (by kernel_rfl) (by kernel_rfl) (by show 2≤8; decide) (by decide) (by rfl) ((run x s).trans (f0_eq x s))
noncomputable def sp:Sp U El:=fun args k=>match args with
  | [.agg [.str x_ln,.str x_lf,.str x_lt,.int .i64 x_lk,.int .i64 x_ll,.int .i64 x_lu,.int .i64 x_ld,.str x_lc,.int .i64 x_lw,.int .i64 x_lh,.lst .knot x_lv],.pcs [.str s] 0]=>k (.bool ((bU s) (⟨x_ln,x_lf,x_lt,x_lk,x_ll,x_lu,x_ld,x_lc,x_lw,x_lh,x_lv⟩:Lnk))) []
  | _=>none
theorem spOk:SpOk Tryz.prog E 140 sp where
  det:=fun vs=>by
    unfold sp
    split
    · exact ⟨some (_,_),fun _=>rfl⟩
    · exact ⟨none,fun _=>rfl⟩
  ok:=fun vs k r h=>by
    unfold sp at h
    split at h
    · exact ⟨_,_,spec ⟨_,_,_,_,_,_,_,_,_,_,_⟩ _,h⟩
    · cases h
end lk1
namespace lk1X
noncomputable def bd:Code:=(Tryz.f110.body).getD .skip
noncomputable def X:Ctx U El:=⟨E,tds,zeros,eqs,aC [(140,lk1.sp)],100000,19,ap [],fun _=>none⟩
noncomputable def nmR:Norm U:=⟨[],[4],[],[],[],[],[]⟩
noncomputable def RR:ab U El:=fun st=>aE nmR st (aD [4] [])
noncomputable def nm1:Norm U:=⟨[],[],[],[],[],[],[]⟩
noncomputable def nm2:Norm U:=⟨[],[0,1,7,8],[],[],[],[],[]⟩
abbrev Y1:=R
abbrev Y2:=(List Lnk)→(List UInt8)→Int→Int→R
noncomputable def fr0 (l:List Lnk) (s:List UInt8):St U El:=⟨[(0,(.lst .link l)),(1,(.fn 140 [] [(.pcs [(.str s)] 0)]))],[]⟩
noncomputable def fr1:St U El:=⟨[],[]⟩
noncomputable def fr2 (s0:List Lnk) (f1c_0:List UInt8) (x7:Int) (x8:Int):St U El:=⟨[(0,(.lst .link s0)),(1,(.fn 140 [] [(.pcs [(.str f1c_0)] 0)])),(7,(.int .i64 x7)),(8,(.int .i64 x8))],[]⟩
noncomputable def sh0 (l:List Lnk) (s:List UInt8) (k2:Y2):R :=
  k2 l s (Int.ofNat (List.length l)) (0:Int)
noncomputable def sh1:R :=
  some ((.int .i64 (-1:Int)),[])
noncomputable def sh2 (s0:List Lnk) (f1c_0:List UInt8) (x7:Int) (x8:Int) (k1:Y1) (k2:Y2):R :=
  aa (ilt x8 x7) (chk (inb x8 (List.length s0)) (aa ((bU f1c_0) (List.getD s0 (Int.toNat x8) bJ)) (some ((.int .i64 x8),[])) (k2 s0 f1c_0 x7 (IntKind.wrap .i64 (x8+(1:Int)))))) (k1)
noncomputable def it2 (Kb1:ab U El) (n:Nat):ab U El:=bw nm2 (fun st' K'=>ac X (cdp [1,0,1,0,0] bd) .d st' K' (aq 0 (ah nm1 Kb1) (fun _ _=>none)) RR) n
noncomputable def ct1:ab U El:=fun st=>ac X (cdp [1,1] bd) .d st RR (fun _ _=>none) RR
theorem P0 (l s):ac X (cdp [] bd) (.seq none .d (.seq (some nm1) (.seq none .d (.block (.loop nm2 .d))) .d)) (fr0 l s) RR (fun _ _=>none) RR=sh0 l s (fun y0 y1 y2 y3=>(hid (it2 (hid ct1) 100000)) (fr2 y0 y1 y2 y3)):=by kernel_rfl
theorem P1:ct1 (fr1)=sh1:=by kernel_rfl
theorem P2 (s0 f1c_0 x7 x8) (Kb1 Kb2:ab U El):ac X (cdp [1,0,1,0,0] bd) .d (fr2 s0 f1c_0 x7 x8) (ah nm2 Kb2) (aq 0 (ah nm1 Kb1) (fun _ _=>none)) RR=sh2 s0 f1c_0 x7 x8 (Kb1 (fr1)) (fun y0 y1 y2 y3=>Kb2 (fr2 y0 y1 y2 y3)):=by kernel_rfl
noncomputable def f1:R:=sh1
noncomputable def f2:Nat→Y2
  | 0=>fun _ _ _ _=>none
  | n+1=>fun s0 f1c_0 x7 x8=>sh2 s0 f1c_0 x7 x8 f1 (f2 n)
noncomputable def f0 (l:List Lnk) (s:List UInt8):R:=sh0 l s (f2 100000)
theorem T1:(hid ct1) (fr1)=f1:=by
  refine (congrFun (ai _) _).trans <| (P1).trans ?_
  show _=sh1
  rfl
theorem T2:∀ (n:Nat),∀ s0 f1c_0 x7 x8,it2 (hid ct1) n (fr2 s0 f1c_0 x7 x8)=f2 n s0 f1c_0 x7 x8:=by
  intro n
  induction n with
  | zero=>intros; rfl
  | succ n ih =>
    intro s0 f1c_0 x7 x8
    refine (P2 s0 f1c_0 x7 x8 (hid ct1) (it2 (hid ct1) n)).trans ?_
    show _=sh2 s0 f1c_0 x7 x8 f1 (f2 n)
    simp only [T1,ih]
theorem H2 (s0 f1c_0 x7 x8):hid (it2 (hid ct1) 100000) (fr2 s0 f1c_0 x7 x8)=f2 100000 s0 f1c_0 x7 x8:=(congrFun (ai _) _).trans (T2 100000 s0 f1c_0 x7 x8)
theorem T0 (l s):ac X bd (.seq none .d (.seq (some nm1) (.seq none .d (.block (.loop nm2 .d))) .d)) (fr0 l s) RR (fun _ _=>none) RR=f0 l s:=by
  refine (P0 l s).trans ?_
  show _=sh0 l s (f2 100000)
  simp only [H2]
theorem run (l s):aJ X bd (.seq none .d (.seq (some nm1) (.seq none .d (.block (.loop nm2 .d))) .d)) nmR [4] [] [(.lst .link l),(.fn 140 [] [(.pcs [(.str s)] 0)])]=f0 l s:=T0 l s
theorem f0_eq (l:List Lnk) (s:List UInt8) (h:(nle (List.length l) 90000)=true):f0 l s=bH (aN (bU s) 0 l):=by
  have hl:=bQ h
  refine (bu l (by omega) (fun n_ (_:Unit) i_=>f2 n_ l s (Int.ofNat l.length) i_) _ (fun _=>bH (-1)) (fun n_ u_ i_ hi_ => ?_) (fun n_ u_ => ?_) 100000 0 () (by omega) (by omega)).trans (bM (bU s) bH l 0)
  · show sh2 l s (Int.ofNat l.length) i_ f1 (f2 n_) = _
    unfold sh2
    rw [aX (by simp; omega),aW hi_,ak,ar hi_]
    rfl
  · show sh2 l s (Int.ofNat l.length) (l.length : Int) f1 (f2 n_) = _
    unfold sh2
    rw [aR (by simp)]
    rfl
theorem ok:CtxOk Tryz.prog X:=aI tab (spC lk1.spOk spN) dpN
theorem okM:MOk Tryz.prog X:=fun g sp h=>by cases h
theorem spec (l:List Lnk) (s:List UInt8) (h:(nle (List.length l) 90000)=true):aj Tryz.prog E 110 [(.lst .link l),(.fn 140 [] [(.pcs [(.str s)] 0)])] (.int .i64 (aN (bU s) 0 l)) [] :=
  ae ok okM Tryz.call110 Tryz.func110 (by kernel_rfl) (by kernel_rfl) (by kernel_rfl) (by show 2≤19; decide) (by decide) (by rfl) ((run l s).trans (f0_eq l s h))
noncomputable def sp:Sp U El:=fun args k=>match args with
  | [.lst .link l,.fn 140 [] [.pcs [.str s] 0]]=>chk (nle (List.length l) 90000) (k (.int .i64 (aN (bU s) 0 l)) [])
  | _=>none
theorem spOk:SpOk Tryz.prog E 110 sp where
  det:=fun vs=>by
    unfold sp
    split
    · exact aY _ _ _
    · exact ⟨none,fun _=>rfl⟩
  ok:=fun vs k r h=>by
    unfold sp at h
    split at h
    · obtain ⟨h1, h2⟩ := af h
      exact ⟨_,_,spec _ _ h1,h2⟩
    · cases h
end lk1X
namespace gv1
noncomputable def bd:Code:=(Tryz.f112.body).getD .skip
noncomputable def X:Ctx U El:=⟨E,tds,zeros,eqs,aC [],100000,9,ap [],fun _=>none⟩
noncomputable def nmR:Norm U:=⟨[],[3],[],[],[],[],[]⟩
noncomputable def RR:ab U El:=fun st=>aE nmR st (aD [3] [])
noncomputable def fr0 (x:Node) (s:List UInt8) (b:Bool) (v:Int):St U El:=⟨[(0,(.agg [(.str x.nn),(.int .i64 x.nk),(.int .i64 x.nx),(.int .i64 x.ny),(.int .i64 x.ni),(.int .i64 x.ng),(.lst .knot x.nh),(.bool x.np),(.int .i64 x.nr)])),(1,(.pcs [(.str s),(.bool b),(.int .i64 v)] 0))],[]⟩
noncomputable def sh0 (x:Node) (s:List UInt8) (b:Bool) (v:Int):R :=
  some ((.bool (x.nn == s)),[])
theorem P0 (x s b v):ac X (cdp [] bd) .d (fr0 x s b v) RR (fun _ _=>none) RR=sh0 x s b v:=by kernel_rfl
noncomputable def f0 (x:Node) (s:List UInt8) (b:Bool) (v:Int):R:=sh0 x s b v
theorem T0 (x s b v):ac X bd .d (fr0 x s b v) RR (fun _ _=>none) RR=f0 x s b v:=by
  refine (P0 x s b v).trans ?_
  show _=sh0 x s b v
  rfl
theorem run (x s b v):aJ X bd .d nmR [3] [] [(.agg [(.str x.nn),(.int .i64 x.nk),(.int .i64 x.nx),(.int .i64 x.ny),(.int .i64 x.ni),(.int .i64 x.ng),(.lst .knot x.nh),(.bool x.np),(.int .i64 x.nr)]),(.pcs [(.str s),(.bool b),(.int .i64 v)] 0)]=f0 x s b v:=T0 x s b v
theorem f0_eq (x:Node) (s:List UInt8) (b:Bool) (v:Int):f0 x s b v=aH (bk s x):=rfl
theorem ok:CtxOk Tryz.prog X:=aI tab spN dpN
theorem okM:MOk Tryz.prog X:=fun g sp h=>by cases h
theorem spec (x:Node) (s:List UInt8) (b:Bool) (v:Int):aj Tryz.prog E 112 [(.agg [(.str x.nn),(.int .i64 x.nk),(.int .i64 x.nx),(.int .i64 x.ny),(.int .i64 x.ni),(.int .i64 x.ng),(.lst .knot x.nh),(.bool x.np),(.int .i64 x.nr)]),(.pcs [(.str s),(.bool b),(.int .i64 v)] 0)] (.bool ((bk s) x)) [] :=
  ae ok okM Tryz.call112 Tryz.func112 (by kernel_rfl) (by kernel_rfl) (by kernel_rfl) (by show 2≤9; decide) (by decide) (by rfl) ((run x s b v).trans (f0_eq x s b v))
noncomputable def sp:Sp U El:=fun args k=>match args with
  | [.agg [.str x_nn,.int .i64 x_nk,.int .i64 x_nx,.int .i64 x_ny,.int .i64 x_ni,.int .i64 x_ng,.lst .knot x_nh,.bool x_np,.int .i64 x_nr],.pcs [.str s,.bool b,.int .i64 v] 0]=>k (.bool ((bk s) (⟨x_nn,x_nk,x_nx,x_ny,x_ni,x_ng,x_nh,x_np,x_nr⟩:Node))) []
  | _=>none
theorem spOk:SpOk Tryz.prog E 112 sp where
  det:=fun vs=>by
    unfold sp
    split
    · exact ⟨some (_,_),fun _=>rfl⟩
    · exact ⟨none,fun _=>rfl⟩
  ok:=fun vs k r h=>by
    unfold sp at h
    split at h
    · exact ⟨_,_,spec ⟨_,_,_,_,_,_,_,_,_⟩ _ _ _,h⟩
    · cases h
end gv1
namespace gv1X
noncomputable def bd:Code:=(Tryz.f109.body).getD .skip
noncomputable def X:Ctx U El:=⟨E,tds,zeros,eqs,aC [(112,gv1.sp)],100000,19,ap [],fun _=>none⟩
noncomputable def nmR:Norm U:=⟨[],[4],[],[],[],[],[]⟩
noncomputable def RR:ab U El:=fun st=>aE nmR st (aD [4] [])
noncomputable def nm1:Norm U:=⟨[],[],[],[],[],[],[]⟩
noncomputable def nm2:Norm U:=⟨[],[0,1,7,8],[],[],[],[],[]⟩
abbrev Y1:=R
abbrev Y2:=(List Node)→(List UInt8)→Bool→Int→Int→Int→R
noncomputable def fr0 (l:List Node) (s:List UInt8) (b:Bool) (v:Int):St U El:=⟨[(0,(.lst .node l)),(1,(.fn 112 [] [(.pcs [(.str s),(.bool b),(.int .i64 v)] 0)]))],[]⟩
noncomputable def fr1:St U El:=⟨[],[]⟩
noncomputable def fr2 (s0:List Node) (f1c_0:List UInt8) (f1c_1:Bool) (f1c_2:Int) (x7:Int) (x8:Int):St U El:=⟨[(0,(.lst .node s0)),(1,(.fn 112 [] [(.pcs [(.str f1c_0),(.bool f1c_1),(.int .i64 f1c_2)] 0)])),(7,(.int .i64 x7)),(8,(.int .i64 x8))],[]⟩
noncomputable def sh0 (l:List Node) (s:List UInt8) (b:Bool) (v:Int) (k2:Y2):R :=
  k2 l s b v (Int.ofNat (List.length l)) (0:Int)
noncomputable def sh1:R :=
  some ((.int .i64 (-1:Int)),[])
noncomputable def sh2 (s0:List Node) (f1c_0:List UInt8) (f1c_1:Bool) (f1c_2:Int) (x7:Int) (x8:Int) (k1:Y1) (k2:Y2):R :=
  aa (ilt x8 x7) (chk (inb x8 (List.length s0)) (aa ((bk f1c_0) (List.getD s0 (Int.toNat x8) aO)) (some ((.int .i64 x8),[])) (k2 s0 f1c_0 f1c_1 f1c_2 x7 (IntKind.wrap .i64 (x8+(1:Int)))))) (k1)
noncomputable def it2 (Kb1:ab U El) (n:Nat):ab U El:=bw nm2 (fun st' K'=>ac X (cdp [1,0,1,0,0] bd) .d st' K' (aq 0 (ah nm1 Kb1) (fun _ _=>none)) RR) n
noncomputable def ct1:ab U El:=fun st=>ac X (cdp [1,1] bd) .d st RR (fun _ _=>none) RR
theorem P0 (l s b v):ac X (cdp [] bd) (.seq none .d (.seq (some nm1) (.seq none .d (.block (.loop nm2 .d))) .d)) (fr0 l s b v) RR (fun _ _=>none) RR=sh0 l s b v (fun y0 y1 y2 y3 y4 y5=>(hid (it2 (hid ct1) 100000)) (fr2 y0 y1 y2 y3 y4 y5)):=by kernel_rfl
theorem P1:ct1 (fr1)=sh1:=by kernel_rfl
theorem P2 (s0 f1c_0 f1c_1 f1c_2 x7 x8) (Kb1 Kb2:ab U El):ac X (cdp [1,0,1,0,0] bd) .d (fr2 s0 f1c_0 f1c_1 f1c_2 x7 x8) (ah nm2 Kb2) (aq 0 (ah nm1 Kb1) (fun _ _=>none)) RR=sh2 s0 f1c_0 f1c_1 f1c_2 x7 x8 (Kb1 (fr1)) (fun y0 y1 y2 y3 y4 y5=>Kb2 (fr2 y0 y1 y2 y3 y4 y5)):=by kernel_rfl
noncomputable def f1:R:=sh1
noncomputable def f2:Nat→Y2
  | 0=>fun _ _ _ _ _ _=>none
  | n+1=>fun s0 f1c_0 f1c_1 f1c_2 x7 x8=>sh2 s0 f1c_0 f1c_1 f1c_2 x7 x8 f1 (f2 n)
noncomputable def f0 (l:List Node) (s:List UInt8) (b:Bool) (v:Int):R:=sh0 l s b v (f2 100000)
theorem T1:(hid ct1) (fr1)=f1:=by
  refine (congrFun (ai _) _).trans <| (P1).trans ?_
  show _=sh1
  rfl
theorem T2:∀ (n:Nat),∀ s0 f1c_0 f1c_1 f1c_2 x7 x8,it2 (hid ct1) n (fr2 s0 f1c_0 f1c_1 f1c_2 x7 x8)=f2 n s0 f1c_0 f1c_1 f1c_2 x7 x8:=by
  intro n
  induction n with
  | zero=>intros; rfl
  | succ n ih =>
    intro s0 f1c_0 f1c_1 f1c_2 x7 x8
    refine (P2 s0 f1c_0 f1c_1 f1c_2 x7 x8 (hid ct1) (it2 (hid ct1) n)).trans ?_
    show _=sh2 s0 f1c_0 f1c_1 f1c_2 x7 x8 f1 (f2 n)
    simp only [T1,ih]
theorem H2 (s0 f1c_0 f1c_1 f1c_2 x7 x8):hid (it2 (hid ct1) 100000) (fr2 s0 f1c_0 f1c_1 f1c_2 x7 x8)=f2 100000 s0 f1c_0 f1c_1 f1c_2 x7 x8:=(congrFun (ai _) _).trans (T2 100000 s0 f1c_0 f1c_1 f1c_2 x7 x8)
theorem T0 (l s b v):ac X bd (.seq none .d (.seq (some nm1) (.seq none .d (.block (.loop nm2 .d))) .d)) (fr0 l s b v) RR (fun _ _=>none) RR=f0 l s b v:=by
  refine (P0 l s b v).trans ?_
  show _=sh0 l s b v (f2 100000)
  simp only [H2]
theorem run (l s b v):aJ X bd (.seq none .d (.seq (some nm1) (.seq none .d (.block (.loop nm2 .d))) .d)) nmR [4] [] [(.lst .node l),(.fn 112 [] [(.pcs [(.str s),(.bool b),(.int .i64 v)] 0)])]=f0 l s b v:=T0 l s b v
theorem f0_eq (l:List Node) (s:List UInt8) (b:Bool) (v:Int) (h:(nle (List.length l) 90000)=true):f0 l s b v=bH (aN (bk s) 0 l):=by
  have hl:=bQ h
  refine (bu l (by omega) (fun n_ (_:Unit) i_=>f2 n_ l s b v (Int.ofNat l.length) i_) _ (fun _=>bH (-1)) (fun n_ u_ i_ hi_ => ?_) (fun n_ u_ => ?_) 100000 0 () (by omega) (by omega)).trans (bM (bk s) bH l 0)
  · show sh2 l s b v (Int.ofNat l.length) i_ f1 (f2 n_) = _
    unfold sh2
    rw [aX (by simp; omega),aW hi_,ak,ar hi_]
    rfl
  · show sh2 l s b v (Int.ofNat l.length) (l.length : Int) f1 (f2 n_) = _
    unfold sh2
    rw [aR (by simp)]
    rfl
theorem ok:CtxOk Tryz.prog X:=aI tab (spC gv1.spOk spN) dpN
theorem okM:MOk Tryz.prog X:=fun g sp h=>by cases h
theorem spec (l:List Node) (s:List UInt8) (b:Bool) (v:Int) (h:(nle (List.length l) 90000)=true):aj Tryz.prog E 109 [(.lst .node l),(.fn 112 [] [(.pcs [(.str s),(.bool b),(.int .i64 v)] 0)])] (.int .i64 (aN (bk s) 0 l)) [] :=
  ae ok okM Tryz.call109 Tryz.func109 (by kernel_rfl) (by kernel_rfl) (by kernel_rfl) (by show 2≤19; decide) (by decide) (by rfl) ((run l s b v).trans (f0_eq l s b v h))
noncomputable def sp:Sp U El:=fun args k=>match args with
  | [.lst .node l,.fn 112 [] [.pcs [.str s,.bool b,.int .i64 v] 0]]=>chk (nle (List.length l) 90000) (k (.int .i64 (aN (bk s) 0 l)) [])
  | _=>none
theorem spOk:SpOk Tryz.prog E 109 sp where
  det:=fun vs=>by
    unfold sp
    split
    · exact aY _ _ _
    · exact ⟨none,fun _=>rfl⟩
  ok:=fun vs k r h=>by
    unfold sp at h
    split at h
    · obtain ⟨h1, h2⟩ := af h
      exact ⟨_,_,spec _ _ _ _ h1,h2⟩
    · cases h
end gv1X
namespace gv1C
noncomputable def bd:Code:=(Tryz.f57.body).getD .skip
noncomputable def X:Ctx U El:=⟨E,tds,zeros,eqs,aC [(109,gv1X.sp)],100000,9,ap [],fun _=>none⟩
noncomputable def nmR:Norm U:=⟨[],[4],[],[],[],[],[]⟩
noncomputable def RR:ab U El:=fun st=>aE nmR st (aD [4] [])
noncomputable def fr0 (l:List Node) (s:List UInt8) (b:Bool) (v:Int):St U El:=⟨[(0,(.lst .node l)),(1,(.fn 112 [] [(.pcs [(.str s),(.bool b),(.int .i64 v)] 0)]))],[]⟩
noncomputable def sh0 (l:List Node) (s:List UInt8) (b:Bool) (v:Int):R :=
  chk (nle (List.length l) 90000) (some ((.bool (ile (0:Int) (aN (bk s) 0 l))),[]))
theorem P0 (l s b v):ac X (cdp [] bd) .d (fr0 l s b v) RR (fun _ _=>none) RR=sh0 l s b v:=by kernel_rfl
noncomputable def f0 (l:List Node) (s:List UInt8) (b:Bool) (v:Int):R:=sh0 l s b v
theorem T0 (l s b v):ac X bd .d (fr0 l s b v) RR (fun _ _=>none) RR=f0 l s b v:=by
  refine (P0 l s b v).trans ?_
  show _=sh0 l s b v
  rfl
theorem run (l s b v):aJ X bd .d nmR [4] [] [(.lst .node l),(.fn 112 [] [(.pcs [(.str s),(.bool b),(.int .i64 v)] 0)])]=f0 l s b v:=T0 l s b v
theorem f0_eq (l:List Node) (s:List UInt8) (b:Bool) (v:Int) (h:(nle (List.length l) 90000)=true):f0 l s b v=aH (List.any l (bk s)):=by
  show chk _ (aH _)=_
  rw [h,bL,b8]
theorem ok:CtxOk Tryz.prog X:=aI tab (spC gv1X.spOk spN) dpN
theorem okM:MOk Tryz.prog X:=fun g sp h=>by cases h
theorem spec (l:List Node) (s:List UInt8) (b:Bool) (v:Int) (h:(nle (List.length l) 90000)=true):aj Tryz.prog E 57 [(.lst .node l),(.fn 112 [] [(.pcs [(.str s),(.bool b),(.int .i64 v)] 0)])] (.bool (List.any l (bk s))) [] :=
  ae ok okM Tryz.call57 Tryz.func57 (by kernel_rfl) (by kernel_rfl) (by kernel_rfl) (by show 2≤9; decide) (by decide) (by rfl) ((run l s b v).trans (f0_eq l s b v h))
noncomputable def sp:Sp U El:=fun args k=>match args with
  | [.lst .node l,.fn 112 [] [.pcs [.str s,.bool b,.int .i64 v] 0]]=>chk (nle (List.length l) 90000) (k (.bool (List.any l (bk s))) [])
  | _=>none
theorem spOk:SpOk Tryz.prog E 57 sp where
  det:=fun vs=>by
    unfold sp
    split
    · exact aY _ _ _
    · exact ⟨none,fun _=>rfl⟩
  ok:=fun vs k r h=>by
    unfold sp at h
    split at h
    · obtain ⟨h1, h2⟩ := af h
      exact ⟨_,_,spec _ _ _ _ h1,h2⟩
    · cases h
end gv1C
namespace ho11
noncomputable def bd:Code:=(Tryz.f121.body).getD .skip
noncomputable def X:Ctx U El:=⟨E,tds,zeros,eqs,aC [],100000,9,ap [],fun _=>none⟩
noncomputable def nmR:Norm U:=⟨[],[3],[],[],[],[],[]⟩
noncomputable def RR:ab U El:=fun st=>aE nmR st (aD [3] [])
noncomputable def fr0 (x:Node) (s:List UInt8) (b:Bool) (v:Int):St U El:=⟨[(0,(.agg [(.str x.nn),(.int .i64 x.nk),(.int .i64 x.nx),(.int .i64 x.ny),(.int .i64 x.ni),(.int .i64 x.ng),(.lst .knot x.nh),(.bool x.np),(.int .i64 x.nr)])),(1,(.pcs [(.str s),(.bool b),(.int .i64 v)] 0))],[]⟩
noncomputable def sh0 (x:Node) (s:List UInt8) (b:Bool) (v:Int):R :=
  some ((.bool (x.nn == s)),[])
theorem P0 (x s b v):ac X (cdp [] bd) .d (fr0 x s b v) RR (fun _ _=>none) RR=sh0 x s b v:=by kernel_rfl
noncomputable def f0 (x:Node) (s:List UInt8) (b:Bool) (v:Int):R:=sh0 x s b v
theorem T0 (x s b v):ac X bd .d (fr0 x s b v) RR (fun _ _=>none) RR=f0 x s b v:=by
  refine (P0 x s b v).trans ?_
  show _=sh0 x s b v
  rfl
theorem run (x s b v):aJ X bd .d nmR [3] [] [(.agg [(.str x.nn),(.int .i64 x.nk),(.int .i64 x.nx),(.int .i64 x.ny),(.int .i64 x.ni),(.int .i64 x.ng),(.lst .knot x.nh),(.bool x.np),(.int .i64 x.nr)]),(.pcs [(.str s),(.bool b),(.int .i64 v)] 0)]=f0 x s b v:=T0 x s b v
theorem f0_eq (x:Node) (s:List UInt8) (b:Bool) (v:Int):f0 x s b v=aH (bk s x):=rfl
theorem ok:CtxOk Tryz.prog X:=aI tab spN dpN
theorem okM:MOk Tryz.prog X:=fun g sp h=>by cases h
theorem spec (x:Node) (s:List UInt8) (b:Bool) (v:Int):aj Tryz.prog E 121 [(.agg [(.str x.nn),(.int .i64 x.nk),(.int .i64 x.nx),(.int .i64 x.ny),(.int .i64 x.ni),(.int .i64 x.ng),(.lst .knot x.nh),(.bool x.np),(.int .i64 x.nr)]),(.pcs [(.str s),(.bool b),(.int .i64 v)] 0)] (.bool ((bk s) x)) [] :=
  ae ok okM Tryz.call121 Tryz.func121 (by kernel_rfl) (by kernel_rfl) (by kernel_rfl) (by show 2≤9; decide) (by decide) (by rfl) ((run x s b v).trans (f0_eq x s b v))
noncomputable def sp:Sp U El:=fun args k=>match args with
  | [.agg [.str x_nn,.int .i64 x_nk,.int .i64 x_nx,.int .i64 x_ny,.int .i64 x_ni,.int .i64 x_ng,.lst .knot x_nh,.bool x_np,.int .i64 x_nr],.pcs [.str s,.bool b,.int .i64 v] 0]=>k (.bool ((bk s) (⟨x_nn,x_nk,x_nx,x_ny,x_ni,x_ng,x_nh,x_np,x_nr⟩:Node))) []
  | _=>none
theorem spOk:SpOk Tryz.prog E 121 sp where
  det:=fun vs=>by
    unfold sp
    split
    · exact ⟨some (_,_),fun _=>rfl⟩
    · exact ⟨none,fun _=>rfl⟩
  ok:=fun vs k r h=>by
    unfold sp at h
    split at h
    · exact ⟨_,_,spec ⟨_,_,_,_,_,_,_,_,_⟩ _ _ _,h⟩
    · cases h
end ho11
namespace ho11X
noncomputable def bd:Code:=(Tryz.f109.body).getD .skip
noncomputable def X:Ctx U El:=⟨E,tds,zeros,eqs,aC [(121,ho11.sp)],100000,19,ap [],fun _=>none⟩
noncomputable def nmR:Norm U:=⟨[],[4],[],[],[],[],[]⟩
noncomputable def RR:ab U El:=fun st=>aE nmR st (aD [4] [])
noncomputable def nm1:Norm U:=⟨[],[],[],[],[],[],[]⟩
noncomputable def nm2:Norm U:=⟨[],[0,1,7,8],[],[],[],[],[]⟩
abbrev Y1:=R
abbrev Y2:=(List Node)→(List UInt8)→Bool→Int→Int→Int→R
noncomputable def fr0 (l:List Node) (s:List UInt8) (b:Bool) (v:Int):St U El:=⟨[(0,(.lst .node l)),(1,(.fn 121 [] [(.pcs [(.str s),(.bool b),(.int .i64 v)] 0)]))],[]⟩
noncomputable def fr1:St U El:=⟨[],[]⟩
noncomputable def fr2 (s0:List Node) (f1c_0:List UInt8) (f1c_1:Bool) (f1c_2:Int) (x7:Int) (x8:Int):St U El:=⟨[(0,(.lst .node s0)),(1,(.fn 121 [] [(.pcs [(.str f1c_0),(.bool f1c_1),(.int .i64 f1c_2)] 0)])),(7,(.int .i64 x7)),(8,(.int .i64 x8))],[]⟩
noncomputable def sh0 (l:List Node) (s:List UInt8) (b:Bool) (v:Int) (k2:Y2):R :=
  k2 l s b v (Int.ofNat (List.length l)) (0:Int)
noncomputable def sh1:R :=
  some ((.int .i64 (-1:Int)),[])
noncomputable def sh2 (s0:List Node) (f1c_0:List UInt8) (f1c_1:Bool) (f1c_2:Int) (x7:Int) (x8:Int) (k1:Y1) (k2:Y2):R :=
  aa (ilt x8 x7) (chk (inb x8 (List.length s0)) (aa ((bk f1c_0) (List.getD s0 (Int.toNat x8) aO)) (some ((.int .i64 x8),[])) (k2 s0 f1c_0 f1c_1 f1c_2 x7 (IntKind.wrap .i64 (x8+(1:Int)))))) (k1)
noncomputable def it2 (Kb1:ab U El) (n:Nat):ab U El:=bw nm2 (fun st' K'=>ac X (cdp [1,0,1,0,0] bd) .d st' K' (aq 0 (ah nm1 Kb1) (fun _ _=>none)) RR) n
noncomputable def ct1:ab U El:=fun st=>ac X (cdp [1,1] bd) .d st RR (fun _ _=>none) RR
theorem P0 (l s b v):ac X (cdp [] bd) (.seq none .d (.seq (some nm1) (.seq none .d (.block (.loop nm2 .d))) .d)) (fr0 l s b v) RR (fun _ _=>none) RR=sh0 l s b v (fun y0 y1 y2 y3 y4 y5=>(hid (it2 (hid ct1) 100000)) (fr2 y0 y1 y2 y3 y4 y5)):=by kernel_rfl
theorem P1:ct1 (fr1)=sh1:=by kernel_rfl
theorem P2 (s0 f1c_0 f1c_1 f1c_2 x7 x8) (Kb1 Kb2:ab U El):ac X (cdp [1,0,1,0,0] bd) .d (fr2 s0 f1c_0 f1c_1 f1c_2 x7 x8) (ah nm2 Kb2) (aq 0 (ah nm1 Kb1) (fun _ _=>none)) RR=sh2 s0 f1c_0 f1c_1 f1c_2 x7 x8 (Kb1 (fr1)) (fun y0 y1 y2 y3 y4 y5=>Kb2 (fr2 y0 y1 y2 y3 y4 y5)):=by kernel_rfl
noncomputable def f1:R:=sh1
noncomputable def f2:Nat→Y2
  | 0=>fun _ _ _ _ _ _=>none
  | n+1=>fun s0 f1c_0 f1c_1 f1c_2 x7 x8=>sh2 s0 f1c_0 f1c_1 f1c_2 x7 x8 f1 (f2 n)
noncomputable def f0 (l:List Node) (s:List UInt8) (b:Bool) (v:Int):R:=sh0 l s b v (f2 100000)
theorem T1:(hid ct1) (fr1)=f1:=by
  refine (congrFun (ai _) _).trans <| (P1).trans ?_
  show _=sh1
  rfl
theorem T2:∀ (n:Nat),∀ s0 f1c_0 f1c_1 f1c_2 x7 x8,it2 (hid ct1) n (fr2 s0 f1c_0 f1c_1 f1c_2 x7 x8)=f2 n s0 f1c_0 f1c_1 f1c_2 x7 x8:=by
  intro n
  induction n with
  | zero=>intros; rfl
  | succ n ih =>
    intro s0 f1c_0 f1c_1 f1c_2 x7 x8
    refine (P2 s0 f1c_0 f1c_1 f1c_2 x7 x8 (hid ct1) (it2 (hid ct1) n)).trans ?_
    show _=sh2 s0 f1c_0 f1c_1 f1c_2 x7 x8 f1 (f2 n)
    simp only [T1,ih]
theorem H2 (s0 f1c_0 f1c_1 f1c_2 x7 x8):hid (it2 (hid ct1) 100000) (fr2 s0 f1c_0 f1c_1 f1c_2 x7 x8)=f2 100000 s0 f1c_0 f1c_1 f1c_2 x7 x8:=(congrFun (ai _) _).trans (T2 100000 s0 f1c_0 f1c_1 f1c_2 x7 x8)
theorem T0 (l s b v):ac X bd (.seq none .d (.seq (some nm1) (.seq none .d (.block (.loop nm2 .d))) .d)) (fr0 l s b v) RR (fun _ _=>none) RR=f0 l s b v:=by
  refine (P0 l s b v).trans ?_
  show _=sh0 l s b v (f2 100000)
  simp only [H2]
theorem run (l s b v):aJ X bd (.seq none .d (.seq (some nm1) (.seq none .d (.block (.loop nm2 .d))) .d)) nmR [4] [] [(.lst .node l),(.fn 121 [] [(.pcs [(.str s),(.bool b),(.int .i64 v)] 0)])]=f0 l s b v:=T0 l s b v
theorem f0_eq (l:List Node) (s:List UInt8) (b:Bool) (v:Int) (h:(nle (List.length l) 90000)=true):f0 l s b v=bH (aN (bk s) 0 l):=by
  have hl:=bQ h
  refine (bu l (by omega) (fun n_ (_:Unit) i_=>f2 n_ l s b v (Int.ofNat l.length) i_) _ (fun _=>bH (-1)) (fun n_ u_ i_ hi_ => ?_) (fun n_ u_ => ?_) 100000 0 () (by omega) (by omega)).trans (bM (bk s) bH l 0)
  · show sh2 l s b v (Int.ofNat l.length) i_ f1 (f2 n_) = _
    unfold sh2
    rw [aX (by simp; omega),aW hi_,ak,ar hi_]
    rfl
  · show sh2 l s b v (Int.ofNat l.length) (l.length : Int) f1 (f2 n_) = _
    unfold sh2
    rw [aR (by simp)]
    rfl
theorem ok:CtxOk Tryz.prog X:=aI tab (spC ho11.spOk spN) dpN
theorem okM:MOk Tryz.prog X:=fun g sp h=>by cases h
theorem spec (l:List Node) (s:List UInt8) (b:Bool) (v:Int) (h:(nle (List.length l) 90000)=true):aj Tryz.prog E 109 [(.lst .node l),(.fn 121 [] [(.pcs [(.str s),(.bool b),(.int .i64 v)] 0)])] (.int .i64 (aN (bk s) 0 l)) [] :=
  ae ok okM Tryz.call109 Tryz.func109 (by kernel_rfl) (by kernel_rfl) (by kernel_rfl) (by show 2≤19; decide) (by decide) (by rfl) ((run l s b v).trans (f0_eq l s b v h))
noncomputable def sp:Sp U El:=fun args k=>match args with
  | [.lst .node l,.fn 121 [] [.pcs [.str s,.bool b,.int .i64 v] 0]]=>chk (nle (List.length l) 90000) (k (.int .i64 (aN (bk s) 0 l)) [])
  | _=>none
theorem spOk:SpOk Tryz.prog E 109 sp where
  det:=fun vs=>by
    unfold sp
    split
    · exact aY _ _ _
    · exact ⟨none,fun _=>rfl⟩
  ok:=fun vs k r h=>by
    unfold sp at h
    split at h
    · obtain ⟨h1, h2⟩ := af h
      exact ⟨_,_,spec _ _ _ _ h1,h2⟩
    · cases h
end ho11X
namespace rl1
noncomputable def bd:Code:=(Tryz.f156.body).getD .skip
noncomputable def X:Ctx U El:=⟨E,tds,zeros,eqs,aC [(148,between.sp)],100000,13,ap [],fun _=>none⟩
noncomputable def nmR:Norm U:=⟨[],[2],[],[],[],[],[]⟩
noncomputable def RR:ab U El:=fun st=>aE nmR st (aD [2] [])
noncomputable def fr0 (x:Knot):St U El:=⟨[(0,(.agg [(.int .i64 x.kx),(.int .i64 x.ky)]))],[]⟩
noncomputable def sh0 (x:Knot):R :=
  aa (!((ile (0:Int) x.kx&&ile x.kx (4194304:Int)))) (some ((.bool true),[])) (some ((.bool (!((ile (0:Int) x.ky&&ile x.ky (1099511627776:Int))))),[]))
theorem P0 (x):ac X (cdp [] bd) .d (fr0 x) RR (fun _ _=>none) RR=sh0 x:=by kernel_rfl
noncomputable def f0 (x:Knot):R:=sh0 x
theorem T0 (x):ac X bd .d (fr0 x) RR (fun _ _=>none) RR=f0 x:=by
  refine (P0 x).trans ?_
  show _=sh0 x
  rfl
theorem run (x):aJ X bd .d nmR [2] [] [(.agg [(.int .i64 x.kx),(.int .i64 x.ky)])]=f0 x:=T0 x
theorem f0_eq (x:Knot):f0 x=aH (ce x):=cOr aH _ _
theorem ok:CtxOk Tryz.prog X:=aI tab (spC between.spOk spN) dpN
theorem okM:MOk Tryz.prog X:=fun g sp h=>by cases h
theorem spec (x:Knot):aj Tryz.prog E 156 [(.agg [(.int .i64 x.kx),(.int .i64 x.ky)])] (.bool (ce x)) [] :=
  ae ok okM Tryz.call156 Tryz.func156 (by kernel_rfl) (by kernel_rfl) (by kernel_rfl) (by show 1≤13; decide) (by decide) (by rfl) ((run x).trans (f0_eq x))
noncomputable def sp:Sp U El:=fun args k=>match args with
  | [.agg [.int .i64 x_kx,.int .i64 x_ky]]=>k (.bool (ce (⟨x_kx,x_ky⟩:Knot))) []
  | _=>none
theorem spOk:SpOk Tryz.prog E 156 sp where
  det:=fun vs=>by
    unfold sp
    split
    · exact ⟨some (_,_),fun _=>rfl⟩
    · exact ⟨none,fun _=>rfl⟩
  ok:=fun vs k r h=>by
    unfold sp at h
    split at h
    · exact ⟨_,_,spec ⟨_,_⟩,h⟩
    · cases h
end rl1
namespace rl1X
noncomputable def bd:Code:=(Tryz.f176.body).getD .skip
noncomputable def X:Ctx U El:=⟨E,tds,zeros,eqs,aC [(156,rl1.sp)],100000,19,ap [],fun _=>none⟩
noncomputable def nmR:Norm U:=⟨[],[4],[],[],[],[],[]⟩
noncomputable def RR:ab U El:=fun st=>aE nmR st (aD [4] [])
noncomputable def nm1:Norm U:=⟨[],[],[],[],[],[],[]⟩
noncomputable def nm2:Norm U:=⟨[],[0,1,7,8],[],[],[],[],[]⟩
abbrev Y1:=R
abbrev Y2:=(List Knot)→Int→Int→R
noncomputable def fr0 (l:List Knot):St U El:=⟨[(0,(.lst .knot l)),(1,(.fn 156 [] []))],[]⟩
noncomputable def fr1:St U El:=⟨[],[]⟩
noncomputable def fr2 (s0:List Knot) (x7:Int) (x8:Int):St U El:=⟨[(0,(.lst .knot s0)),(1,(.fn 156 [] [])),(7,(.int .i64 x7)),(8,(.int .i64 x8))],[]⟩
noncomputable def sh0 (l:List Knot) (k2:Y2):R :=
  k2 l (Int.ofNat (List.length l)) (0:Int)
noncomputable def sh1:R :=
  some ((.int .i64 (-1:Int)),[])
noncomputable def sh2 (s0:List Knot) (x7:Int) (x8:Int) (k1:Y1) (k2:Y2):R :=
  aa (ilt x8 x7) (chk (inb x8 (List.length s0)) (aa (ce (List.getD s0 (Int.toNat x8) br)) (some ((.int .i64 x8),[])) (k2 s0 x7 (IntKind.wrap .i64 (x8+(1:Int)))))) (k1)
noncomputable def it2 (Kb1:ab U El) (n:Nat):ab U El:=bw nm2 (fun st' K'=>ac X (cdp [1,0,1,0,0] bd) .d st' K' (aq 0 (ah nm1 Kb1) (fun _ _=>none)) RR) n
noncomputable def ct1:ab U El:=fun st=>ac X (cdp [1,1] bd) .d st RR (fun _ _=>none) RR
theorem P0 (l):ac X (cdp [] bd) (.seq none .d (.seq (some nm1) (.seq none .d (.block (.loop nm2 .d))) .d)) (fr0 l) RR (fun _ _=>none) RR=sh0 l (fun y0 y1 y2=>(hid (it2 (hid ct1) 100000)) (fr2 y0 y1 y2)):=by kernel_rfl
theorem P1:ct1 (fr1)=sh1:=by kernel_rfl
theorem P2 (s0 x7 x8) (Kb1 Kb2:ab U El):ac X (cdp [1,0,1,0,0] bd) .d (fr2 s0 x7 x8) (ah nm2 Kb2) (aq 0 (ah nm1 Kb1) (fun _ _=>none)) RR=sh2 s0 x7 x8 (Kb1 (fr1)) (fun y0 y1 y2=>Kb2 (fr2 y0 y1 y2)):=by kernel_rfl
noncomputable def f1:R:=sh1
noncomputable def f2:Nat→Y2
  | 0=>fun _ _ _=>none
  | n+1=>fun s0 x7 x8=>sh2 s0 x7 x8 f1 (f2 n)
noncomputable def f0 (l:List Knot):R:=sh0 l (f2 100000)
theorem T1:(hid ct1) (fr1)=f1:=by
  refine (congrFun (ai _) _).trans <| (P1).trans ?_
  show _=sh1
  rfl
theorem T2:∀ (n:Nat),∀ s0 x7 x8,it2 (hid ct1) n (fr2 s0 x7 x8)=f2 n s0 x7 x8:=by
  intro n
  induction n with
  | zero=>intros; rfl
  | succ n ih =>
    intro s0 x7 x8
    refine (P2 s0 x7 x8 (hid ct1) (it2 (hid ct1) n)).trans ?_
    show _=sh2 s0 x7 x8 f1 (f2 n)
    simp only [T1,ih]
theorem H2 (s0 x7 x8):hid (it2 (hid ct1) 100000) (fr2 s0 x7 x8)=f2 100000 s0 x7 x8:=(congrFun (ai _) _).trans (T2 100000 s0 x7 x8)
theorem T0 (l):ac X bd (.seq none .d (.seq (some nm1) (.seq none .d (.block (.loop nm2 .d))) .d)) (fr0 l) RR (fun _ _=>none) RR=f0 l:=by
  refine (P0 l).trans ?_
  show _=sh0 l (f2 100000)
  simp only [H2]
theorem run (l):aJ X bd (.seq none .d (.seq (some nm1) (.seq none .d (.block (.loop nm2 .d))) .d)) nmR [4] [] [(.lst .knot l),(.fn 156 [] [])]=f0 l:=T0 l
theorem f0_eq (l:List Knot) (h:(nle (List.length l) 90000)=true):f0 l=bH (aN ce 0 l):=by
  have hl:=bQ h
  refine (bu l (by omega) (fun n_ (_:Unit) i_=>f2 n_ l (Int.ofNat l.length) i_) _ (fun _=>bH (-1)) (fun n_ u_ i_ hi_ => ?_) (fun n_ u_ => ?_) 100000 0 () (by omega) (by omega)).trans (bM ce bH l 0)
  · show sh2 l (Int.ofNat l.length) i_ f1 (f2 n_) = _
    unfold sh2
    rw [aX (by simp; omega),aW hi_,ak,ar hi_]
    rfl
  · show sh2 l (Int.ofNat l.length) (l.length : Int) f1 (f2 n_) = _
    unfold sh2
    rw [aR (by simp)]
    rfl
theorem ok:CtxOk Tryz.prog X:=aI tab (spC rl1.spOk spN) dpN
theorem okM:MOk Tryz.prog X:=fun g sp h=>by cases h
theorem spec (l:List Knot) (h:(nle (List.length l) 90000)=true):aj Tryz.prog E 176 [(.lst .knot l),(.fn 156 [] [])] (.int .i64 (aN ce 0 l)) [] :=
  ae ok okM Tryz.call176 Tryz.func176 (by kernel_rfl) (by kernel_rfl) (by kernel_rfl) (by show 2≤19; decide) (by decide) (by rfl) ((run l).trans (f0_eq l h))
noncomputable def sp:Sp U El:=fun args k=>match args with
  | [.lst .knot l,.fn 156 [] []]=>chk (nle (List.length l) 90000) (k (.int .i64 (aN ce 0 l)) [])
  | _=>none
theorem spOk:SpOk Tryz.prog E 176 sp where
  det:=fun vs=>by
    unfold sp
    split
    · exact aY _ _ _
    · exact ⟨none,fun _=>rfl⟩
  ok:=fun vs k r h=>by
    unfold sp at h
    split at h
    · obtain ⟨h1, h2⟩ := af h
      exact ⟨_,_,spec _ h1,h2⟩
    · cases h
end rl1X
namespace rl1C
noncomputable def bd:Code:=(Tryz.f155.body).getD .skip
noncomputable def X:Ctx U El:=⟨E,tds,zeros,eqs,aC [(176,rl1X.sp)],100000,9,ap [],fun _=>none⟩
noncomputable def nmR:Norm U:=⟨[],[4],[],[],[],[],[]⟩
noncomputable def RR:ab U El:=fun st=>aE nmR st (aD [4] [])
noncomputable def fr0 (l:List Knot):St U El:=⟨[(0,(.lst .knot l)),(1,(.fn 156 [] []))],[]⟩
noncomputable def sh0 (l:List Knot):R :=
  chk (nle (List.length l) 90000) (some ((.bool (ile (0:Int) (aN ce 0 l))),[]))
theorem P0 (l):ac X (cdp [] bd) .d (fr0 l) RR (fun _ _=>none) RR=sh0 l:=by kernel_rfl
noncomputable def f0 (l:List Knot):R:=sh0 l
theorem T0 (l):ac X bd .d (fr0 l) RR (fun _ _=>none) RR=f0 l:=by
  refine (P0 l).trans ?_
  show _=sh0 l
  rfl
theorem run (l):aJ X bd .d nmR [4] [] [(.lst .knot l),(.fn 156 [] [])]=f0 l:=T0 l
theorem f0_eq (l:List Knot) (h:(nle (List.length l) 90000)=true):f0 l=aH (List.any l ce):=by
  show chk _ (aH _)=_
  rw [h,bL,b8]
theorem ok:CtxOk Tryz.prog X:=aI tab (spC rl1X.spOk spN) dpN
theorem okM:MOk Tryz.prog X:=fun g sp h=>by cases h
theorem spec (l:List Knot) (h:(nle (List.length l) 90000)=true):aj Tryz.prog E 155 [(.lst .knot l),(.fn 156 [] [])] (.bool (List.any l ce)) [] :=
  ae ok okM Tryz.call155 Tryz.func155 (by kernel_rfl) (by kernel_rfl) (by kernel_rfl) (by show 2≤9; decide) (by decide) (by rfl) ((run l).trans (f0_eq l h))
noncomputable def sp:Sp U El:=fun args k=>match args with
  | [.lst .knot l,.fn 156 [] []]=>chk (nle (List.length l) 90000) (k (.bool (List.any l ce)) [])
  | _=>none
theorem spOk:SpOk Tryz.prog E 155 sp where
  det:=fun vs=>by
    unfold sp
    split
    · exact aY _ _ _
    · exact ⟨none,fun _=>rfl⟩
  ok:=fun vs k r h=>by
    unfold sp at h
    split at h
    · obtain ⟨h1, h2⟩ := af h
      exact ⟨_,_,spec _ h1,h2⟩
    · cases h
end rl1C
namespace nnode
noncomputable def bd:Code:=(Tryz.f137.body).getD .skip
noncomputable def X:Ctx U El:=⟨E,tds,zeros,eqs,aC [(109,nd1X.sp)],100000,9,ap [],fun _=>none⟩
noncomputable def nmR:Norm U:=⟨[],[4],[],[],[],[],[]⟩
noncomputable def RR:ab U El:=fun st=>aE nmR st (aD [4] [])
noncomputable def fr0 (n:Net) (s:List UInt8):St U El:=⟨[(0,(.agg [(.lst .node n.nds),(.lst .link n.lks)])),(1,(.str s))],[]⟩
noncomputable def sh0 (n:Net) (s:List UInt8):R :=
  chk (nle (List.length n.nds) 90000) (some ((.int .i64 (aN (bk s) 0 n.nds)),[]))
theorem P0 (n s):ac X (cdp [] bd) .d (fr0 n s) RR (fun _ _=>none) RR=sh0 n s:=by kernel_rfl
noncomputable def f0 (n:Net) (s:List UInt8):R:=sh0 n s
theorem T0 (n s):ac X bd .d (fr0 n s) RR (fun _ _=>none) RR=f0 n s:=by
  refine (P0 n s).trans ?_
  show _=sh0 n s
  rfl
theorem run (n s):aJ X bd .d nmR [4] [] [(.agg [(.lst .node n.nds),(.lst .link n.lks)]),(.str s)]=f0 n s:=T0 n s
theorem f0_eq (n:Net) (s:List UInt8) (h:okN n=true):f0 n s=bH (bS n s):=by
  show chk _ _=_
  rw [cr h]; rfl
theorem ok:CtxOk Tryz.prog X:=aI tab (spC nd1X.spOk spN) dpN
theorem okM:MOk Tryz.prog X:=fun g sp h=>by cases h
theorem spec (n:Net) (s:List UInt8) (h:(okN n)=true):aj Tryz.prog E 137 [(.agg [(.lst .node n.nds),(.lst .link n.lks)]),(.str s)] (.int .i64 (bS n s)) [] :=
  ae ok okM Tryz.call137 Tryz.func137 (by kernel_rfl) (by kernel_rfl) (by kernel_rfl) (by show 2≤9; decide) (by decide) (by rfl) ((run n s).trans (f0_eq n s h))
noncomputable def sp:Sp U El:=fun args k=>match args with
  | [.agg [.lst .node n_nds,.lst .link n_lks],.str s]=>chk (okN (⟨n_nds,n_lks⟩:Net)) (k (.int .i64 (bS (⟨n_nds,n_lks⟩:Net) s)) [])
  | _=>none
theorem spOk:SpOk Tryz.prog E 137 sp where
  det:=fun vs=>by
    unfold sp
    split
    · exact aY _ _ _
    · exact ⟨none,fun _=>rfl⟩
  ok:=fun vs k r h=>by
    unfold sp at h
    split at h
    · obtain ⟨h1, h2⟩ := af h
      exact ⟨_,_,spec ⟨_,_⟩ _ h1,h2⟩
    · cases h
end nnode
namespace nlink
noncomputable def bd:Code:=(Tryz.f118.body).getD .skip
noncomputable def X:Ctx U El:=⟨E,tds,zeros,eqs,aC [(110,lk1X.sp)],100000,9,ap [],fun _=>none⟩
noncomputable def nmR:Norm U:=⟨[],[4],[],[],[],[],[]⟩
noncomputable def RR:ab U El:=fun st=>aE nmR st (aD [4] [])
noncomputable def fr0 (n:Net) (s:List UInt8):St U El:=⟨[(0,(.agg [(.lst .node n.nds),(.lst .link n.lks)])),(1,(.str s))],[]⟩
noncomputable def sh0 (n:Net) (s:List UInt8):R :=
  chk (nle (List.length n.lks) 90000) (some ((.int .i64 (aN (bU s) 0 n.lks)),[]))
theorem P0 (n s):ac X (cdp [] bd) .d (fr0 n s) RR (fun _ _=>none) RR=sh0 n s:=by kernel_rfl
noncomputable def f0 (n:Net) (s:List UInt8):R:=sh0 n s
theorem T0 (n s):ac X bd .d (fr0 n s) RR (fun _ _=>none) RR=f0 n s:=by
  refine (P0 n s).trans ?_
  show _=sh0 n s
  rfl
theorem run (n s):aJ X bd .d nmR [4] [] [(.agg [(.lst .node n.nds),(.lst .link n.lks)]),(.str s)]=f0 n s:=T0 n s
theorem f0_eq (n:Net) (s:List UInt8) (h:okN n=true):f0 n s=bH (aF n s):=by
  show chk _ _=_
  rw [gd h]; rfl
theorem ok:CtxOk Tryz.prog X:=aI tab (spC lk1X.spOk spN) dpN
theorem okM:MOk Tryz.prog X:=fun g sp h=>by cases h
theorem spec (n:Net) (s:List UInt8) (h:(okN n)=true):aj Tryz.prog E 118 [(.agg [(.lst .node n.nds),(.lst .link n.lks)]),(.str s)] (.int .i64 (aF n s)) [] :=
  ae ok okM Tryz.call118 Tryz.func118 (by kernel_rfl) (by kernel_rfl) (by kernel_rfl) (by show 2≤9; decide) (by decide) (by rfl) ((run n s).trans (f0_eq n s h))
noncomputable def sp:Sp U El:=fun args k=>match args with
  | [.agg [.lst .node n_nds,.lst .link n_lks],.str s]=>chk (okN (⟨n_nds,n_lks⟩:Net)) (k (.int .i64 (aF (⟨n_nds,n_lks⟩:Net) s)) [])
  | _=>none
theorem spOk:SpOk Tryz.prog E 118 sp where
  det:=fun vs=>by
    unfold sp
    split
    · exact aY _ _ _
    · exact ⟨none,fun _=>rfl⟩
  ok:=fun vs k r h=>by
    unfold sp at h
    split at h
    · obtain ⟨h1, h2⟩ := af h
      exact ⟨_,_,spec ⟨_,_⟩ _ h1,h2⟩
    · cases h
end nlink
namespace rfindNode
noncomputable def bd:Code:=(Tryz.f83.body).getD .skip
noncomputable def X:Ctx U El:=⟨E,tds,zeros,eqs,aC [],100000,22,ap [],fun _=>none⟩
noncomputable def nmR:Norm U:=⟨[],[4],[],[],[],[],[]⟩
noncomputable def RR:ab U El:=fun st=>aE nmR st (aD [4] [])
noncomputable def nm1:Norm U:=⟨[],[],[],[],[],[],[]⟩
noncomputable def nm2:Norm U:=⟨[],[1,2,5],[2],[],[],[],[(2,0,.node),(2,1,.link)]⟩
abbrev Y1:=R
abbrev Y2:=(List UInt8)→Int→(List Node)→(List Lnk)→R
noncomputable def fr0 (n:Net) (s:List UInt8):St U El:=⟨[(0,(.agg [(.lst .node n.nds),(.lst .link n.lks)])),(1,(.str s))],[]⟩
noncomputable def fr1:St U El:=⟨[],[]⟩
noncomputable def fr2 (aA:List UInt8) (i5:Int) (bA:List Node) (cA:List Lnk):St U El:=⟨[(1,(.str aA)),(2,(.ptr 2 0)),(5,(.int .i64 i5))],[(2,(.box 0 [(.lst .node bA),(.lst .link cA)]))]⟩
noncomputable def sh0 (n:Net) (s:List UInt8) (k2:Y2):R :=
  k2 s (0:Int) n.nds n.lks
noncomputable def sh1:R :=
  some ((.int .i64 (-1:Int)),[])
noncomputable def sh2 (aA:List UInt8) (i5:Int) (bA:List Node) (cA:List Lnk) (k1:Y1) (k2:Y2):R :=
  aa (ilt i5 (Int.ofNat (List.length bA))) (chk (inb i5 (List.length bA)) (aa (((List.getD bA (Int.toNat i5) aO).nn) == aA) (some ((.int .i64 i5),[])) (k2 aA (IntKind.wrap .i64 (i5+(1:Int))) bA cA))) (k1)
noncomputable def it2 (Kb1:ab U El) (n:Nat):ab U El:=bw nm2 (fun st' K'=>ac X (cdp [1,0,1,0,0] bd) .d st' K' (aq 0 (ah nm1 Kb1) (fun _ _=>none)) RR) n
noncomputable def ct1:ab U El:=fun st=>ac X (cdp [1,1] bd) .d st RR (fun _ _=>none) RR
theorem P0 (n s):ac X (cdp [] bd) (.seq none .d (.seq (some nm1) (.seq none .d (.block (.loop nm2 .d))) .d)) (fr0 n s) RR (fun _ _=>none) RR=sh0 n s (fun y0 y1 y2 y3=>(hid (it2 (hid ct1) 100000)) (fr2 y0 y1 y2 y3)):=by kernel_rfl
theorem P1:ct1 (fr1)=sh1:=by kernel_rfl
theorem P2 (aA i5 bA cA) (Kb1 Kb2:ab U El):ac X (cdp [1,0,1,0,0] bd) .d (fr2 aA i5 bA cA) (ah nm2 Kb2) (aq 0 (ah nm1 Kb1) (fun _ _=>none)) RR=sh2 aA i5 bA cA (Kb1 (fr1)) (fun y0 y1 y2 y3=>Kb2 (fr2 y0 y1 y2 y3)):=by kernel_rfl
noncomputable def f1:R:=sh1
noncomputable def f2:Nat→Y2
  | 0=>fun _ _ _ _=>none
  | n+1=>fun aA i5 bA cA=>sh2 aA i5 bA cA f1 (f2 n)
noncomputable def f0 (n:Net) (s:List UInt8):R:=sh0 n s (f2 100000)
theorem T1:(hid ct1) (fr1)=f1:=by
  refine (congrFun (ai _) _).trans <| (P1).trans ?_
  show _=sh1
  rfl
theorem T2:∀ (n:Nat),∀ aA i5 bA cA,it2 (hid ct1) n (fr2 aA i5 bA cA)=f2 n aA i5 bA cA:=by
  intro n
  induction n with
  | zero=>intros; rfl
  | succ n ih =>
    intro aA i5 bA cA
    refine (P2 aA i5 bA cA (hid ct1) (it2 (hid ct1) n)).trans ?_
    show _=sh2 aA i5 bA cA f1 (f2 n)
    simp only [T1,ih]
theorem H2 (aA i5 bA cA):hid (it2 (hid ct1) 100000) (fr2 aA i5 bA cA)=f2 100000 aA i5 bA cA:=(congrFun (ai _) _).trans (T2 100000 aA i5 bA cA)
theorem T0 (n s):ac X bd (.seq none .d (.seq (some nm1) (.seq none .d (.block (.loop nm2 .d))) .d)) (fr0 n s) RR (fun _ _=>none) RR=f0 n s:=by
  refine (P0 n s).trans ?_
  show _=sh0 n s (f2 100000)
  simp only [H2]
theorem run (n s):aJ X bd (.seq none .d (.seq (some nm1) (.seq none .d (.block (.loop nm2 .d))) .d)) nmR [4] [] [(.agg [(.lst .node n.nds),(.lst .link n.lks)]),(.str s)]=f0 n s:=T0 n s
theorem f0_eq (n:Net) (s:List UInt8) (h:okN n=true):f0 n s=bH (bS n s):=by
  have hl:=bQ (cr h)
  refine (bu n.nds (by omega) (fun m (_:Unit) i=>f2 m s i n.nds n.lks) _ (fun _=>bH (-1)) (fun m u i hi => ?_) (fun m u => ?_) 100000 0 () (by omega) (by omega)).trans (bM (bk s) bH n.nds 0)
  · show sh2 s i n.nds n.lks f1 (f2 m) = _
    unfold sh2
    rw [aX (by simp; omega),aW hi,ak,ar hi]
    rfl
  · show sh2 s (n.nds.length : Int) n.nds n.lks f1 (f2 m) = _
    unfold sh2
    rw [aR (by simp)]
    rfl
theorem ok:CtxOk Tryz.prog X:=aI tab spN dpN
theorem okM:MOk Tryz.prog X:=fun g sp h=>by cases h
theorem spec (n:Net) (s:List UInt8) (h:(okN n)=true):aj Tryz.prog E 83 [(.agg [(.lst .node n.nds),(.lst .link n.lks)]),(.str s)] (.int .i64 (bS n s)) [] :=
  ae ok okM Tryz.call83 Tryz.func83 (by kernel_rfl) (by kernel_rfl) (by kernel_rfl) (by show 2≤22; decide) (by decide) (by rfl) ((run n s).trans (f0_eq n s h))
noncomputable def sp:Sp U El:=fun args k=>match args with
  | [.agg [.lst .node n_nds,.lst .link n_lks],.str s]=>chk (okN (⟨n_nds,n_lks⟩:Net)) (k (.int .i64 (bS (⟨n_nds,n_lks⟩:Net) s)) [])
  | _=>none
theorem spOk:SpOk Tryz.prog E 83 sp where
  det:=fun vs=>by
    unfold sp
    split
    · exact aY _ _ _
    · exact ⟨none,fun _=>rfl⟩
  ok:=fun vs k r h=>by
    unfold sp at h
    split at h
    · obtain ⟨h1, h2⟩ := af h
      exact ⟨_,_,spec ⟨_,_⟩ _ h1,h2⟩
    · cases h
end rfindNode
namespace rfindLink
noncomputable def bd:Code:=(Tryz.f76.body).getD .skip
noncomputable def X:Ctx U El:=⟨E,tds,zeros,eqs,aC [],100000,22,ap [],fun _=>none⟩
noncomputable def nmR:Norm U:=⟨[],[4],[],[],[],[],[]⟩
noncomputable def RR:ab U El:=fun st=>aE nmR st (aD [4] [])
noncomputable def nm1:Norm U:=⟨[],[],[],[],[],[],[]⟩
noncomputable def nm2:Norm U:=⟨[],[1,2,5],[2],[],[],[],[(2,0,.node),(2,1,.link)]⟩
abbrev Y1:=R
abbrev Y2:=(List UInt8)→Int→(List Node)→(List Lnk)→R
noncomputable def fr0 (n:Net) (s:List UInt8):St U El:=⟨[(0,(.agg [(.lst .node n.nds),(.lst .link n.lks)])),(1,(.str s))],[]⟩
noncomputable def fr1:St U El:=⟨[],[]⟩
noncomputable def fr2 (aA:List UInt8) (i5:Int) (bA:List Node) (cA:List Lnk):St U El:=⟨[(1,(.str aA)),(2,(.ptr 2 0)),(5,(.int .i64 i5))],[(2,(.box 0 [(.lst .node bA),(.lst .link cA)]))]⟩
noncomputable def sh0 (n:Net) (s:List UInt8) (k2:Y2):R :=
  k2 s (0:Int) n.nds n.lks
noncomputable def sh1:R :=
  some ((.int .i64 (-1:Int)),[])
noncomputable def sh2 (aA:List UInt8) (i5:Int) (bA:List Node) (cA:List Lnk) (k1:Y1) (k2:Y2):R :=
  aa (ilt i5 (Int.ofNat (List.length cA))) (chk (inb i5 (List.length cA)) (aa (((List.getD cA (Int.toNat i5) bJ).ln) == aA) (some ((.int .i64 i5),[])) (k2 aA (IntKind.wrap .i64 (i5+(1:Int))) bA cA))) (k1)
noncomputable def it2 (Kb1:ab U El) (n:Nat):ab U El:=bw nm2 (fun st' K'=>ac X (cdp [1,0,1,0,0] bd) .d st' K' (aq 0 (ah nm1 Kb1) (fun _ _=>none)) RR) n
noncomputable def ct1:ab U El:=fun st=>ac X (cdp [1,1] bd) .d st RR (fun _ _=>none) RR
theorem P0 (n s):ac X (cdp [] bd) (.seq none .d (.seq (some nm1) (.seq none .d (.block (.loop nm2 .d))) .d)) (fr0 n s) RR (fun _ _=>none) RR=sh0 n s (fun y0 y1 y2 y3=>(hid (it2 (hid ct1) 100000)) (fr2 y0 y1 y2 y3)):=by kernel_rfl
theorem P1:ct1 (fr1)=sh1:=by kernel_rfl
theorem P2 (aA i5 bA cA) (Kb1 Kb2:ab U El):ac X (cdp [1,0,1,0,0] bd) .d (fr2 aA i5 bA cA) (ah nm2 Kb2) (aq 0 (ah nm1 Kb1) (fun _ _=>none)) RR=sh2 aA i5 bA cA (Kb1 (fr1)) (fun y0 y1 y2 y3=>Kb2 (fr2 y0 y1 y2 y3)):=by kernel_rfl
noncomputable def f1:R:=sh1
noncomputable def f2:Nat→Y2
  | 0=>fun _ _ _ _=>none
  | n+1=>fun aA i5 bA cA=>sh2 aA i5 bA cA f1 (f2 n)
noncomputable def f0 (n:Net) (s:List UInt8):R:=sh0 n s (f2 100000)
theorem T1:(hid ct1) (fr1)=f1:=by
  refine (congrFun (ai _) _).trans <| (P1).trans ?_
  show _=sh1
  rfl
theorem T2:∀ (n:Nat),∀ aA i5 bA cA,it2 (hid ct1) n (fr2 aA i5 bA cA)=f2 n aA i5 bA cA:=by
  intro n
  induction n with
  | zero=>intros; rfl
  | succ n ih =>
    intro aA i5 bA cA
    refine (P2 aA i5 bA cA (hid ct1) (it2 (hid ct1) n)).trans ?_
    show _=sh2 aA i5 bA cA f1 (f2 n)
    simp only [T1,ih]
theorem H2 (aA i5 bA cA):hid (it2 (hid ct1) 100000) (fr2 aA i5 bA cA)=f2 100000 aA i5 bA cA:=(congrFun (ai _) _).trans (T2 100000 aA i5 bA cA)
theorem T0 (n s):ac X bd (.seq none .d (.seq (some nm1) (.seq none .d (.block (.loop nm2 .d))) .d)) (fr0 n s) RR (fun _ _=>none) RR=f0 n s:=by
  refine (P0 n s).trans ?_
  show _=sh0 n s (f2 100000)
  simp only [H2]
theorem run (n s):aJ X bd (.seq none .d (.seq (some nm1) (.seq none .d (.block (.loop nm2 .d))) .d)) nmR [4] [] [(.agg [(.lst .node n.nds),(.lst .link n.lks)]),(.str s)]=f0 n s:=T0 n s
theorem f0_eq (n:Net) (s:List UInt8) (h:okN n=true):f0 n s=bH (aF n s):=by
  have hl:=bQ (gd h)
  refine (bu n.lks (by omega) (fun m (_:Unit) i=>f2 m s i n.nds n.lks) _ (fun _=>bH (-1)) (fun m u i hi => ?_) (fun m u => ?_) 100000 0 () (by omega) (by omega)).trans (bM (bU s) bH n.lks 0)
  · show sh2 s i n.nds n.lks f1 (f2 m) = _
    unfold sh2
    rw [aX (by simp; omega),aW hi,ak,ar hi]
    rfl
  · show sh2 s (n.lks.length : Int) n.nds n.lks f1 (f2 m) = _
    unfold sh2
    rw [aR (by simp)]
    rfl
theorem ok:CtxOk Tryz.prog X:=aI tab spN dpN
theorem okM:MOk Tryz.prog X:=fun g sp h=>by cases h
theorem spec (n:Net) (s:List UInt8) (h:(okN n)=true):aj Tryz.prog E 76 [(.agg [(.lst .node n.nds),(.lst .link n.lks)]),(.str s)] (.int .i64 (aF n s)) [] :=
  ae ok okM Tryz.call76 Tryz.func76 (by kernel_rfl) (by kernel_rfl) (by kernel_rfl) (by show 2≤22; decide) (by decide) (by rfl) ((run n s).trans (f0_eq n s h))
noncomputable def sp:Sp U El:=fun args k=>match args with
  | [.agg [.lst .node n_nds,.lst .link n_lks],.str s]=>chk (okN (⟨n_nds,n_lks⟩:Net)) (k (.int .i64 (aF (⟨n_nds,n_lks⟩:Net) s)) [])
  | _=>none
theorem spOk:SpOk Tryz.prog E 76 sp where
  det:=fun vs=>by
    unfold sp
    split
    · exact aY _ _ _
    · exact ⟨none,fun _=>rfl⟩
  ok:=fun vs k r h=>by
    unfold sp at h
    split at h
    · obtain ⟨h1, h2⟩ := af h
      exact ⟨_,_,spec ⟨_,_⟩ _ h1,h2⟩
    · cases h
end rfindLink
namespace found
noncomputable def bd:Code:=(Tryz.f117.body).getD .skip
noncomputable def X:Ctx U El:=⟨E,tds,zeros,eqs,aC [],100000,9,ap [],fun _=>none⟩
noncomputable def nmR:Norm U:=⟨[],[4,5],[],[],[],[],[]⟩
noncomputable def RR:ab U El:=fun st=>aE nmR st (aD [4,5] [])
noncomputable def fr0 (n:Net) (i:Int):St U El:=⟨[(0,(.agg [(.lst .node n.nds),(.lst .link n.lks)])),(1,(.int .i64 i))],[]⟩
noncomputable def sh0 (n:Net) (i:Int):R :=
  aa (ilt i (0:Int)) (some ((.tup [(.int .i64 (0:Int)),(.int .i64 (9:Int))]),[])) (some ((.tup [(.int .i64 i),(.int .i64 (0:Int))]),[]))
theorem P0 (n i):ac X (cdp [] bd) .d (fr0 n i) RR (fun _ _=>none) RR=sh0 n i:=by kernel_rfl
noncomputable def f0 (n:Net) (i:Int):R:=sh0 n i
theorem T0 (n i):ac X bd .d (fr0 n i) RR (fun _ _=>none) RR=f0 n i:=by
  refine (P0 n i).trans ?_
  show _=sh0 n i
  rfl
theorem run (n i):aJ X bd .d nmR [4,5] [] [(.agg [(.lst .node n.nds),(.lst .link n.lks)]),(.int .i64 i)]=f0 n i:=T0 n i
theorem f0_eq (n:Net) (i:Int):f0 n i=some (.tup [.int .i64 (bif ilt i 0 then 0 else i),.int .i64 (bif ilt i 0 then 9 else 0)],[]):=by
  show sh0 n i=_
  unfold sh0
  cases ilt i 0<;>rfl
theorem ok:CtxOk Tryz.prog X:=aI tab spN dpN
theorem okM:MOk Tryz.prog X:=fun g sp h=>by cases h
theorem spec (n:Net) (i:Int):aj Tryz.prog E 117 [(.agg [(.lst .node n.nds),(.lst .link n.lks)]),(.int .i64 i)] (.tup [(.int .i64 ((bif ilt i 0 then 0 else i))),(.int .i64 ((bif ilt i 0 then 9 else 0)))]) [] :=
  ae ok okM Tryz.call117 Tryz.func117 (by kernel_rfl) (by kernel_rfl) (by kernel_rfl) (by show 2≤9; decide) (by decide) (by rfl) ((run n i).trans (f0_eq n i))
noncomputable def sp:Sp U El:=fun args k=>match args with
  | [.agg [.lst .node n_nds,.lst .link n_lks],.int .i64 i]=>k (.tup [(.int .i64 ((bif ilt i 0 then 0 else i))),(.int .i64 ((bif ilt i 0 then 9 else 0)))]) []
  | _=>none
theorem spOk:SpOk Tryz.prog E 117 sp where
  det:=fun vs=>by
    unfold sp
    split
    · exact ⟨some (_,_),fun _=>rfl⟩
    · exact ⟨none,fun _=>rfl⟩
  ok:=fun vs k r h=>by
    unfold sp at h
    split at h
    · exact ⟨_,_,spec ⟨_,_⟩ _,h⟩
    · cases h
end found
end Go.Proofs.YthdimnlkcgchoaaGreat

namespace Go.Proofs.YthdimnlkcgchoaaGreat
set_option linter.unusedSectionVars false
set_option linter.unusedSimpArgs false
set_option linter.unusedVariables false
set_option maxRecDepth 100000
theorem hQ {Q:Type} (a b:Bool) (x y:Q):aa a x (aa b x y)=aa (a||b) x y:=by cases a<;>rfl
theorem sR {Q:Type} (a b:Bool) (x y:Q):aa a (aa b x y) y=aa (a&&b) x y:=by cases a<;>rfl
theorem mW {Q:Type} (a:Bool) (x y:Q):aa (!a) x y=aa a y x:=by cases a<;>rfl
def eJ {α:Type} (p:Nat→α→Bool):Nat→List α→Bool
  | _,[]=>true
  | i,x :: l=>p i x&&eJ p (i+1) l
theorem dW {α:Type} (q:Nat→α→Bool) (fin:Unit→R) (b:Bool):∀ (l:List α) (i:Nat),l7 (σ:=Unit) (fun _ i x k=>aa (q i x) (aH b) (k ())) fin () i l=aa (eJ (fun i x => !q i x) i l) (fin ()) (aH b):=by
  intro l
  induction l with
  | nil=>intro i; rfl
  | cons x l ih =>
    intro i
    simp only [l7,eJ]
    cases q i x
    · exact ih (i+1)
    · rfl
theorem allI_iff {α:Type} {p:Nat→α→Bool}:∀ {l:List α} {i:Nat},eJ p i l=true↔∀ (j:Nat) x,l[j]? = some x→p (i+j) x=true:=by
  intro l
  induction l with
  | nil=>intro i; simp [eJ]
  | cons y l ih =>
    intro i
    simp only [eJ,Bool.and_eq_true,ih]
    constructor
    · rintro ⟨h1, h2⟩ j x hj
      cases j with
      | zero=>simp at hj; subst hj; exact h1
      | succ j=>have:=h2 j x (by simpa using hj); rwa [show i+1+j=i+(j+1) by omega] at this
    · intro h
      exact ⟨h 0 y rfl,fun j x hj=>by have:=h (j+1) x (by simpa using hj); rwa [show i+(j+1)=i+1+j by omega] at this⟩
theorem sb (i:Nat) (h0:0 < i) (h:i≤1000000):IntKind.wrap .i64 ((i:Int) - 1)=((i - 1:Nat):Int):=o9 i h0 h
noncomputable def cP (t:List Knot) (i:Nat) (k:Knot):Bool :=
  !(inR 1125899906842624 k.kx)||(!(inR 1125899906842624 k.ky)||(nlt 0 i&&(ile k.kx (List.getD t (i - 1) br).kx||ilt k.ky (List.getD t (i - 1) br).ky)))
noncomputable def bR (t:List Knot):Bool := !(ilt (Int.ofNat t.length) 1)&&(!(ilt 100 (Int.ofNat t.length))&&eJ (fun i k => !(cP t i k)) 0 t)
noncomputable def dX (t:List Knot):Knot:=List.getD t (t.length - 1) br
noncomputable def iY (t:List Knot):Knot:=List.getD t 0 br
noncomputable def cg (t:List Knot) (d:Int):Bool:=bR t&&(((iY t).kx == 0)&&(((iY t).ky == 0)&&(((dX t).kx == d)&&ile (dX t).ky 1125899906842624)))
noncomputable def d6 (t:List Knot):Bool:=bR t&&(ile 0 (iY t).kx&&(ile (dX t).kx 4194304&&(ile 0 (iY t).ky&&ile (dX t).ky 1099511627776)))
theorem dI {t:List Knot} (h:bR t=true):0 < t.length∧t.length≤100:=by
  simp only [bR,Bool.and_eq_true,Bool.not_eq_true'] at h
  have h1:=iw h.1
  have h2:=iw h.2.1
  simp at h1 h2
  omega
theorem pa {t:List Knot} (h:bR t=true):IntKind.wrap .i64 (Int.ofNat t.length - 1)=((t.length - 1:Nat):Int):=by
  obtain ⟨h1,h2⟩:=dI h
  exact o9 t.length (by omega) (by omega)
namespace tvalid
noncomputable def bd:Code:=(Tryz.f154.body).getD .skip
noncomputable def X:Ctx U El:=⟨E,tds,zeros,eqs,aC [(175,fits.sp)],100000,57,ap [],fun _=>none⟩
noncomputable def nmR:Norm U:=⟨[],[2],[],[],[],[],[]⟩
noncomputable def RR:ab U El:=fun st=>aE nmR st (aD [2] [])
noncomputable def nm1:Norm U:=⟨[],[0],[],[],[],[],[]⟩
noncomputable def nm2:Norm U:=⟨[],[],[],[],[],[],[]⟩
noncomputable def nm3:Norm U:=⟨[],[0,13,14,15],[],[],[],[],[]⟩
noncomputable def nm4:Norm U:=⟨[],[0,13,14,15],[],[],[],[],[]⟩
abbrev Y1:=(List Knot)→R
abbrev Y2:=R
abbrev Y3:=(List Knot)→(List Knot)→Int→Int→R
abbrev Y4:=(List Knot)→(List Knot)→Int→Int→R
noncomputable def fr0 (t:List Knot):St U El:=⟨[(0,(.lst .knot t))],[]⟩
noncomputable def fr1 (t0:List Knot):St U El:=⟨[(0,(.lst .knot t0))],[]⟩
noncomputable def fr2:St U El:=⟨[],[]⟩
noncomputable def fr3 (t0:List Knot) (bA:List Knot) (cA:Int) (aA:Int):St U El:=⟨[(0,(.lst .knot t0)),(13,(.lst .knot bA)),(14,(.int .i64 cA)),(15,(.int .i64 aA))],[]⟩
noncomputable def fr4 (t0:List Knot) (bA:List Knot) (cA:Int) (aA:Int):St U El:=⟨[(0,(.lst .knot t0)),(13,(.lst .knot bA)),(14,(.int .i64 cA)),(15,(.int .i64 aA))],[]⟩
noncomputable def sh0 (t:List Knot) (k1:Y1):R :=
  aa (ilt (Int.ofNat (List.length t)) (1:Int)) (some ((.bool false),[])) (aa (ilt (100:Int) (Int.ofNat (List.length t))) (some ((.bool false),[])) (k1 t))
noncomputable def sh1 (t0:List Knot) (k3:Y3):R :=
  k3 t0 t0 (Int.ofNat (List.length t0)) (0:Int)
noncomputable def sh2:R :=
  some ((.bool true),[])
noncomputable def sh3 (t0:List Knot) (bA:List Knot) (cA:Int) (aA:Int) (k2:Y2) (k4:Y4):R :=
  aa (ilt aA cA) (chk (inb aA (List.length bA)) (aa (!(inR 1125899906842624 ((List.getD bA (Int.toNat aA) br).kx))) (some ((.bool false),[])) (aa (!(inR 1125899906842624 ((List.getD bA (Int.toNat aA) br).ky))) (some ((.bool false),[])) (aa (ilt (0:Int) aA) (chk (inb (IntKind.wrap .i64 (aA - (1:Int))) (List.length t0)) (aa (ile ((List.getD bA (Int.toNat aA) br).kx) ((List.getD t0 (Int.toNat (IntKind.wrap .i64 (aA - (1:Int)))) br).kx)) (some ((.bool false),[])) (chk (inb (IntKind.wrap .i64 (aA - (1:Int))) (List.length t0)) (aa (ilt ((List.getD bA (Int.toNat aA) br).ky) ((List.getD t0 (Int.toNat (IntKind.wrap .i64 (aA - (1:Int)))) br).ky)) (some ((.bool false),[])) (k4 t0 bA cA aA))))) (k4 t0 bA cA aA))))) (k2)
noncomputable def sh4 (t0:List Knot) (bA:List Knot) (cA:Int) (aA:Int) (k3:Y3):R :=
  k3 t0 bA cA (IntKind.wrap .i64 (aA+(1:Int)))
noncomputable def it3 (Kb2:ab U El) (n:Nat):ab U El:=bw nm3 (fun st' K'=>ac X (cdp [1,1,0,1,0,0] bd) (.seq none .d (.seq none .d (.seq (some nm4) .d .d))) st' K' (aq 0 (ah nm2 Kb2) (fun _ _=>none)) RR) n
noncomputable def ct1:ab U El:=fun st=>ac X (cdp [1,1] bd) (.seq (some nm2) (.seq none .d (.block (.loop nm3 (.seq none .d (.seq none .d (.seq (some nm4) .d .d)))))) .d) st RR (fun _ _=>none) RR
noncomputable def ct2:ab U El:=fun st=>ac X (cdp [1,1,1] bd) .d st RR (fun _ _=>none) RR
noncomputable def ct4 (Kb2 Kb3:ab U El):ab U El:=fun st=>ac X (cdp [1,1,0,1,0,0,1,1,1] bd) .d st (ah nm3 Kb3) (aq 0 (ah nm2 Kb2) (fun _ _=>none)) RR
theorem P0 (t):ac X (cdp [] bd) (.seq none .d (.seq (some nm1) .d (.seq (some nm2) (.seq none .d (.block (.loop nm3 (.seq none .d (.seq none .d (.seq (some nm4) .d .d)))))) .d))) (fr0 t) RR (fun _ _=>none) RR=sh0 t (fun y0=>(hid ct1) (fr1 y0)):=by kernel_rfl
theorem P1 (t0):ct1 (fr1 t0)=sh1 t0 (fun y0 y1 y2 y3=>(hid (it3 (hid ct2) 100000)) (fr3 y0 y1 y2 y3)):=by kernel_rfl
theorem P2:ct2 (fr2)=sh2:=by kernel_rfl
theorem P3 (t0 bA cA aA) (Kb2 Kb3:ab U El):ac X (cdp [1,1,0,1,0,0] bd) (.seq none .d (.seq none .d (.seq (some nm4) .d .d))) (fr3 t0 bA cA aA) (ah nm3 Kb3) (aq 0 (ah nm2 Kb2) (fun _ _=>none)) RR=sh3 t0 bA cA aA (Kb2 (fr2)) (fun y0 y1 y2 y3=>(hid (ct4 Kb2 Kb3)) (fr4 y0 y1 y2 y3)):=by kernel_rfl
theorem P4 (t0 bA cA aA) (Kb2 Kb3:ab U El):ct4 Kb2 Kb3 (fr4 t0 bA cA aA)=sh4 t0 bA cA aA (fun y0 y1 y2 y3=>Kb3 (fr3 y0 y1 y2 y3)):=by kernel_rfl
noncomputable def f2:R:=sh2
noncomputable def f4 (k3:Y3) (t0:List Knot) (bA:List Knot) (cA:Int) (aA:Int):R:=sh4 t0 bA cA aA k3
noncomputable def f3:Nat→Y3
  | 0=>fun _ _ _ _=>none
  | n+1=>fun t0 bA cA aA=>sh3 t0 bA cA aA f2 (f4 (f3 n))
noncomputable def f1 (t0:List Knot):R:=sh1 t0 (f3 100000)
noncomputable def f0 (t:List Knot):R:=sh0 t f1
theorem T2:(hid ct2) (fr2)=f2:=by
  refine (congrFun (ai _) _).trans <| (P2).trans ?_
  show _=sh2
  rfl
theorem T4 (KL3:ab U El) (k3:Y3) (h3:∀ t0 bA cA aA,KL3 (fr3 t0 bA cA aA)=k3 t0 bA cA aA) (t0 bA cA aA):(hid (ct4 (hid ct2) KL3)) (fr4 t0 bA cA aA)=f4 k3 t0 bA cA aA:=by
  refine (congrFun (ai _) _).trans <| (P4 t0 bA cA aA (hid ct2) KL3).trans ?_
  show _=sh4 t0 bA cA aA k3
  simp only [h3]
theorem T3:∀ (n:Nat),∀ t0 bA cA aA,it3 (hid ct2) n (fr3 t0 bA cA aA)=f3 n t0 bA cA aA:=by
  intro n
  induction n with
  | zero=>intros; rfl
  | succ n ih =>
    intro t0 bA cA aA
    refine (P3 t0 bA cA aA (hid ct2) (it3 (hid ct2) n)).trans ?_
    show _=sh3 t0 bA cA aA f2 (f4 (f3 n))
    simp only [T2,T4 (it3 (hid ct2) n) (f3 n) ih]
theorem H3 (t0 bA cA aA):hid (it3 (hid ct2) 100000) (fr3 t0 bA cA aA)=f3 100000 t0 bA cA aA:=(congrFun (ai _) _).trans (T3 100000 t0 bA cA aA)
theorem T1 (t0):(hid ct1) (fr1 t0)=f1 t0:=by
  refine (congrFun (ai _) _).trans <| (P1 t0).trans ?_
  show _=sh1 t0 (f3 100000)
  simp only [H3]
theorem T0 (t):ac X bd (.seq none .d (.seq (some nm1) .d (.seq (some nm2) (.seq none .d (.block (.loop nm3 (.seq none .d (.seq none .d (.seq (some nm4) .d .d)))))) .d))) (fr0 t) RR (fun _ _=>none) RR=f0 t:=by
  refine (P0 t).trans ?_
  show _=sh0 t f1
  simp only [T1]
theorem run (t):aJ X bd (.seq none .d (.seq (some nm1) .d (.seq (some nm2) (.seq none .d (.block (.loop nm3 (.seq none .d (.seq none .d (.seq (some nm4) .d .d)))))) .d))) nmR [2] [] [(.lst .knot t)]=f0 t:=T0 t
theorem f0_eq (t : List Knot) : f0 t = aH (bR t) := by
  show sh0 t f1=_
  unfold sh0 bR
  by_cases h1:Int.ofNat t.length < 1
  · rw [aX h1]; rfl
  · by_cases h2 : (100 : Int) < Int.ofNat t.length
    · rw [aR h1,aX h2]; rfl
    · rw [aR h1, aR h2]
      show f1 t=aH (eJ (fun i k => !(cP t i k)) 0 t)
      have hl:t.length≤100:=by simp at h2; omega
      refine (bu t (by omega) (fun n_ (_:Unit) i_=>f3 n_ t t (Int.ofNat t.length) i_) (fun u i x k=>aa (cP t i x) (aH false) (k u)) (fun _=>aH true) (fun n_ u_ i_ hi_ => ?_) (fun n_ u_ => ?_) 100000 0 () (by omega) (by omega)).trans ((dW (cP t) (fun _=>aH true) false t 0).trans ?_)
      · show sh3 t t (Int.ofNat t.length) i_ f2 (f4 (f3 n_)) = aa (cP t i_ t[i_]) (aH false) (f3 n_ t t (Int.ofNat t.length) (IntKind.wrap .i64 ((i_ : Int) + 1)))
        unfold sh3 cP
        rw [aX (by simp; omega),aW hi_,ak,ar hi_]
        have hk:f4 (f3 n_) t t (Int.ofNat t.length) (i_:Int)=f3 n_ t t (Int.ofNat t.length) (IntKind.wrap .i64 ((i_:Int)+1)):=rfl
        rw [hk]
        by_cases h0:0 < i_
        · rw [aX (by omega), sb i_ h0 (by omega), aW (show i_ - 1 < t.length by omega), ak, df h0]
          simp only [bL,bG,oB,hQ,Bool.true_and]
        · rw [aR (by omega), oi h0]
          simp only [bL,bG,cO,oB,hQ,Bool.false_and,Bool.or_false]
      · show sh3 t t (Int.ofNat t.length) (t.length : Int) f2 (f4 (f3 n_)) = _
        unfold sh3
        rw [aR (by simp)]
        rfl
      · cases eJ (fun i x => !cP t i x) 0 t<;>rfl
theorem ok:CtxOk Tryz.prog X:=aI tab (spC fits.spOk spN) dpN
theorem okM:MOk Tryz.prog X:=fun g sp h=>by cases h
theorem spec (t:List Knot):aj Tryz.prog E 154 [(.lst .knot t)] (.bool (bR t)) [] :=
  ae ok okM Tryz.call154 Tryz.func154 (by kernel_rfl) (by kernel_rfl) (by kernel_rfl) (by show 1≤57; decide) (by decide) (by rfl) ((run t).trans (f0_eq t))
noncomputable def sp:Sp U El:=fun args k=>match args with
  | [.lst .knot t]=>k (.bool (bR t)) []
  | _=>none
theorem spOk:SpOk Tryz.prog E 154 sp where
  det:=fun vs=>by
    unfold sp
    split
    · exact ⟨some (_,_),fun _=>rfl⟩
    · exact ⟨none,fun _=>rfl⟩
  ok:=fun vs k r h=>by
    unfold sp at h
    split at h
    · exact ⟨_,_,spec _,h⟩
    · cases h
end tvalid
namespace rtvalid
noncomputable def bd:Code:=(Tryz.f145.body).getD .skip
noncomputable def X:Ctx U El:=⟨E,tds,zeros,eqs,aC [(161,rnumber.sp)],100000,64,ap [],fun _=>none⟩
noncomputable def nmR:Norm U:=⟨[],[2],[],[],[],[],[]⟩
noncomputable def RR:ab U El:=fun st=>aE nmR st (aD [2] [])
noncomputable def nm1:Norm U:=⟨[],[0],[],[],[],[],[]⟩
noncomputable def nm2:Norm U:=⟨[],[],[],[],[],[],[]⟩
noncomputable def nm3:Norm U:=⟨[],[0,3],[],[],[],[],[]⟩
noncomputable def nm4:Norm U:=⟨[],[0,3],[],[],[],[],[]⟩
noncomputable def nm5:Norm U:=⟨[],[0,3],[],[],[],[],[]⟩
abbrev Y1:=(List Knot)→R
abbrev Y2:=R
abbrev Y3:=(List Knot)→Int→R
abbrev Y4:=(List Knot)→Int→R
abbrev Y5:=(List Knot)→Int→R
noncomputable def fr0 (t:List Knot):St U El:=⟨[(0,(.lst .knot t))],[]⟩
noncomputable def fr1 (t0:List Knot):St U El:=⟨[(0,(.lst .knot t0))],[]⟩
noncomputable def fr2:St U El:=⟨[],[]⟩
noncomputable def fr3 (t0:List Knot) (i3:Int):St U El:=⟨[(0,(.lst .knot t0)),(3,(.int .i64 i3))],[]⟩
noncomputable def fr4 (t0:List Knot) (i3:Int):St U El:=⟨[(0,(.lst .knot t0)),(3,(.int .i64 i3))],[]⟩
noncomputable def fr5 (t0:List Knot) (i3:Int):St U El:=⟨[(0,(.lst .knot t0)),(3,(.int .i64 i3))],[]⟩
noncomputable def sh0 (t:List Knot) (k1:Y1):R :=
  aa (ilt (Int.ofNat (List.length t)) (1:Int)) (some ((.bool false),[])) (aa (ilt (100:Int) (Int.ofNat (List.length t))) (some ((.bool false),[])) (k1 t))
noncomputable def sh1 (t0:List Knot) (k3:Y3):R :=
  k3 t0 (0:Int)
noncomputable def sh2:R :=
  some ((.bool true),[])
noncomputable def sh3 (t0:List Knot) (i3:Int) (k2:Y2) (k5:Y5):R :=
  aa (ilt i3 (Int.ofNat (List.length t0))) (chk (inb i3 (List.length t0)) (aa (!(inR 1125899906842624 ((List.getD t0 (Int.toNat i3) br).kx))) (some ((.bool false),[])) (chk (inb i3 (List.length t0)) (aa (!(inR 1125899906842624 ((List.getD t0 (Int.toNat i3) br).ky))) (some ((.bool false),[])) (k5 t0 i3))))) (k2)
noncomputable def sh4 (t0:List Knot) (i3:Int) (k3:Y3):R :=
  k3 t0 (IntKind.wrap .i64 (i3+(1:Int)))
noncomputable def sh5 (t0:List Knot) (i3:Int) (k4:Y4):R :=
  aa (ilt (0:Int) i3) (chk (inb i3 (List.length t0)) (chk (inb (IntKind.wrap .i64 (i3 - (1:Int))) (List.length t0)) (aa (ile ((List.getD t0 (Int.toNat i3) br).kx) ((List.getD t0 (Int.toNat (IntKind.wrap .i64 (i3 - (1:Int)))) br).kx)) (some ((.bool false),[])) (chk (inb i3 (List.length t0)) (chk (inb (IntKind.wrap .i64 (i3 - (1:Int))) (List.length t0)) (aa (ilt ((List.getD t0 (Int.toNat i3) br).ky) ((List.getD t0 (Int.toNat (IntKind.wrap .i64 (i3 - (1:Int)))) br).ky)) (some ((.bool false),[])) (k4 t0 i3))))))) (k4 t0 i3)
noncomputable def it3 (Kb2:ab U El) (n:Nat):ab U El:=bw nm3 (fun st' K'=>ac X (cdp [1,1,0,1,0,0] bd) (.seq none .d (.seq (some nm4) (.block (.seq (some nm5) .d .d)) .d)) st' K' (aq 0 (ah nm2 Kb2) (fun _ _=>none)) RR) n
noncomputable def ct1:ab U El:=fun st=>ac X (cdp [1,1] bd) (.seq (some nm2) (.seq none .d (.block (.loop nm3 (.seq none .d (.seq (some nm4) (.block (.seq (some nm5) .d .d)) .d))))) .d) st RR (fun _ _=>none) RR
noncomputable def ct2:ab U El:=fun st=>ac X (cdp [1,1,1] bd) .d st RR (fun _ _=>none) RR
noncomputable def ct4 (Kb2 Kb3:ab U El):ab U El:=fun st=>ac X (cdp [1,1,0,1,0,0,1,1] bd) .d st (ah nm3 Kb3) (aq 0 (ah nm2 Kb2) (fun _ _=>none)) RR
noncomputable def ct5 (Kb2 Kb4:ab U El):ab U El:=fun st=>ac X (cdp [1,1,0,1,0,0,1,0,0,1] bd) .d st (ah nm4 Kb4) (aq 1 (ah nm4 Kb4) (aq 0 (ah nm2 Kb2) (fun _ _=>none))) RR
theorem P0 (t):ac X (cdp [] bd) (.seq none .d (.seq (some nm1) .d (.seq (some nm2) (.seq none .d (.block (.loop nm3 (.seq none .d (.seq (some nm4) (.block (.seq (some nm5) .d .d)) .d))))) .d))) (fr0 t) RR (fun _ _=>none) RR=sh0 t (fun y0=>(hid ct1) (fr1 y0)):=by kernel_rfl
theorem P1 (t0):ct1 (fr1 t0)=sh1 t0 (fun y0 y1=>(hid (it3 (hid ct2) 100000)) (fr3 y0 y1)):=by kernel_rfl
theorem P2:ct2 (fr2)=sh2:=by kernel_rfl
theorem P3 (t0 i3) (Kb2 Kb3:ab U El):ac X (cdp [1,1,0,1,0,0] bd) (.seq none .d (.seq (some nm4) (.block (.seq (some nm5) .d .d)) .d)) (fr3 t0 i3) (ah nm3 Kb3) (aq 0 (ah nm2 Kb2) (fun _ _=>none)) RR=sh3 t0 i3 (Kb2 (fr2)) (fun y0 y1=>(hid (ct5 Kb2 (hid (ct4 Kb2 Kb3)))) (fr5 y0 y1)):=by kernel_rfl
theorem P4 (t0 i3) (Kb2 Kb3:ab U El):ct4 Kb2 Kb3 (fr4 t0 i3)=sh4 t0 i3 (fun y0 y1=>Kb3 (fr3 y0 y1)):=by kernel_rfl
theorem P5 (t0 i3) (Kb2 Kb4:ab U El):ct5 Kb2 Kb4 (fr5 t0 i3)=sh5 t0 i3 (fun y0 y1=>Kb4 (fr4 y0 y1)):=by kernel_rfl
noncomputable def f2:R:=sh2
noncomputable def f4 (k3:Y3) (t0:List Knot) (i3:Int):R:=sh4 t0 i3 k3
noncomputable def f5 (k3:Y3) (t0:List Knot) (i3:Int):R:=sh5 t0 i3 (f4 k3)
noncomputable def f3:Nat→Y3
  | 0=>fun _ _=>none
  | n+1=>fun t0 i3=>sh3 t0 i3 f2 (f5 (f3 n))
noncomputable def f1 (t0:List Knot):R:=sh1 t0 (f3 100000)
noncomputable def f0 (t:List Knot):R:=sh0 t f1
theorem T2:(hid ct2) (fr2)=f2:=by
  refine (congrFun (ai _) _).trans <| (P2).trans ?_
  show _=sh2
  rfl
theorem T4 (KL3:ab U El) (k3:Y3) (h3:∀ t0 i3,KL3 (fr3 t0 i3)=k3 t0 i3) (t0 i3):(hid (ct4 (hid ct2) KL3)) (fr4 t0 i3)=f4 k3 t0 i3:=by
  refine (congrFun (ai _) _).trans <| (P4 t0 i3 (hid ct2) KL3).trans ?_
  show _=sh4 t0 i3 k3
  simp only [h3]
theorem T5 (KL3:ab U El) (k3:Y3) (h3:∀ t0 i3,KL3 (fr3 t0 i3)=k3 t0 i3) (t0 i3):(hid (ct5 (hid ct2) (hid (ct4 (hid ct2) KL3)))) (fr5 t0 i3)=f5 k3 t0 i3:=by
  refine (congrFun (ai _) _).trans <| (P5 t0 i3 (hid ct2) (hid (ct4 (hid ct2) KL3))).trans ?_
  show _=sh5 t0 i3 (f4 k3)
  simp only [T4 KL3 k3 h3]
theorem T3:∀ (n:Nat),∀ t0 i3,it3 (hid ct2) n (fr3 t0 i3)=f3 n t0 i3:=by
  intro n
  induction n with
  | zero=>intros; rfl
  | succ n ih =>
    intro t0 i3
    refine (P3 t0 i3 (hid ct2) (it3 (hid ct2) n)).trans ?_
    show _=sh3 t0 i3 f2 (f5 (f3 n))
    simp only [T2,T5 (it3 (hid ct2) n) (f3 n) ih]
theorem H3 (t0 i3):hid (it3 (hid ct2) 100000) (fr3 t0 i3)=f3 100000 t0 i3:=(congrFun (ai _) _).trans (T3 100000 t0 i3)
theorem T1 (t0):(hid ct1) (fr1 t0)=f1 t0:=by
  refine (congrFun (ai _) _).trans <| (P1 t0).trans ?_
  show _=sh1 t0 (f3 100000)
  simp only [H3]
theorem T0 (t):ac X bd (.seq none .d (.seq (some nm1) .d (.seq (some nm2) (.seq none .d (.block (.loop nm3 (.seq none .d (.seq (some nm4) (.block (.seq (some nm5) .d .d)) .d))))) .d))) (fr0 t) RR (fun _ _=>none) RR=f0 t:=by
  refine (P0 t).trans ?_
  show _=sh0 t f1
  simp only [T1]
theorem run (t):aJ X bd (.seq none .d (.seq (some nm1) .d (.seq (some nm2) (.seq none .d (.block (.loop nm3 (.seq none .d (.seq (some nm4) (.block (.seq (some nm5) .d .d)) .d))))) .d))) nmR [2] [] [(.lst .knot t)]=f0 t:=T0 t
theorem f0_eq (t : List Knot) : f0 t = aH (bR t) := by
  show sh0 t f1=_
  unfold sh0 bR
  by_cases h1:Int.ofNat t.length < 1
  · rw [aX h1]; rfl
  · by_cases h2 : (100 : Int) < Int.ofNat t.length
    · rw [aR h1,aX h2]; rfl
    · rw [aR h1, aR h2]
      show f1 t=aH (eJ (fun i k => !(cP t i k)) 0 t)
      have hl:t.length≤100:=by simp at h2; omega
      refine (bu t (by omega) (fun n_ (_:Unit) i_=>f3 n_ t i_) (fun u i x k=>aa (cP t i x) (aH false) (k u)) (fun _=>aH true) (fun n_ u_ i_ hi_ => ?_) (fun n_ u_ => ?_) 100000 0 () (by omega) (by omega)).trans ((dW (cP t) (fun _=>aH true) false t 0).trans ?_)
      · show sh3 t i_ f2 (f5 (f3 n_)) = aa (cP t i_ t[i_]) (aH false) (f3 n_ t (IntKind.wrap .i64 ((i_ : Int) + 1)))
        unfold sh3 cP
        rw [aX (by simp; omega),aW hi_,ak,ar hi_]
        have hk:f5 (f3 n_) t (i_:Int)=aa (nlt 0 i_&&(ile t[i_].kx (List.getD t (i_ - 1) br).kx||ilt t[i_].ky (List.getD t (i_ - 1) br).ky)) (aH false) (f3 n_ t (IntKind.wrap .i64 ((i_:Int)+1))):=by
          show sh5 t (i_:Int) (f4 (f3 n_))=_
          unfold sh5
          have hk:f4 (f3 n_) t (i_:Int)=f3 n_ t (IntKind.wrap .i64 ((i_:Int)+1)):=rfl
          rw [hk]
          by_cases h0:0 < i_
          · rw [aX (by omega), sb i_ h0 (by omega), aW (show i_ - 1 < t.length by omega), aW hi_, ak, ak, ar hi_, df h0]
            simp only [bL,bG,oB,hQ,Bool.true_and]
          · rw [aR (by omega), oi h0]
            rfl
        rw [hk]
        simp only [bL,bG,oB,hQ]
      · show sh3 t (t.length : Int) f2 (f5 (f3 n_)) = _
        unfold sh3
        rw [aR (by simp)]
        rfl
      · cases eJ (fun i x => !cP t i x) 0 t<;>rfl
theorem ok:CtxOk Tryz.prog X:=aI tab (spC rnumber.spOk spN) dpN
theorem okM:MOk Tryz.prog X:=fun g sp h=>by cases h
theorem spec (t:List Knot):aj Tryz.prog E 145 [(.lst .knot t)] (.bool (bR t)) [] :=
  ae ok okM Tryz.call145 Tryz.func145 (by kernel_rfl) (by kernel_rfl) (by kernel_rfl) (by show 1≤64; decide) (by decide) (by rfl) ((run t).trans (f0_eq t))
noncomputable def sp:Sp U El:=fun args k=>match args with
  | [.lst .knot t]=>k (.bool (bR t)) []
  | _=>none
theorem spOk:SpOk Tryz.prog E 145 sp where
  det:=fun vs=>by
    unfold sp
    split
    · exact ⟨some (_,_),fun _=>rfl⟩
    · exact ⟨none,fun _=>rfl⟩
  ok:=fun vs k r h=>by
    unfold sp at h
    split at h
    · exact ⟨_,_,spec _,h⟩
    · cases h
end rtvalid
namespace shaped
noncomputable def bd:Code:=(Tryz.f150.body).getD .skip
noncomputable def X:Ctx U El:=⟨E,tds,zeros,eqs,aC [(154,tvalid.sp)],100000,31,ap [],fun _=>none⟩
noncomputable def nmR:Norm U:=⟨[],[4],[],[],[],[],[]⟩
noncomputable def RR:ab U El:=fun st=>aE nmR st (aD [4] [])
noncomputable def fr0 (t:List Knot) (d:Int):St U El:=⟨[(0,(.lst .knot t)),(1,(.int .i64 d))],[]⟩
noncomputable def sh0 (t:List Knot) (d:Int):R :=
  aa (!(bR t)) (some ((.bool false),[])) (chk (inb (IntKind.wrap .i64 ((Int.ofNat (List.length t)) - (1:Int))) (List.length t)) (chk (inb (0:Int) (List.length t)) (aa (((List.getD t 0 br).kx == (0:Int))&&(((List.getD t 0 br).ky == (0:Int))&&true)) (aa ((List.getD t (Int.toNat (IntKind.wrap .i64 ((Int.ofNat (List.length t)) - (1:Int)))) br).kx == d) (some ((.bool (ile ((List.getD t (Int.toNat (IntKind.wrap .i64 ((Int.ofNat (List.length t)) - (1:Int)))) br).ky) (1125899906842624:Int))),[])) (some ((.bool false),[]))) (some ((.bool false),[])))))
theorem P0 (t d):ac X (cdp [] bd) .d (fr0 t d) RR (fun _ _=>none) RR=sh0 t d:=by kernel_rfl
noncomputable def f0 (t:List Knot) (d:Int):R:=sh0 t d
theorem T0 (t d):ac X bd .d (fr0 t d) RR (fun _ _=>none) RR=f0 t d:=by
  refine (P0 t d).trans ?_
  show _=sh0 t d
  rfl
theorem run (t d):aJ X bd .d nmR [4] [] [(.lst .knot t),(.int .i64 d)]=f0 t d:=T0 t d
theorem f0_eq (t:List Knot) (d:Int):f0 t d=aH (cg t d):=by
  show sh0 t d=_
  unfold sh0 cg iY dX
  cases h:bR t with
  | false=>rfl
  | true =>
    obtain ⟨h1,h2⟩:=dI h
    rw [pa h,aW (show t.length - 1 < t.length by omega),qS h1,ak]
    simp only [Bool.not_true,cO,bL,oB,cQ,Bool.true_and,Bool.and_true,Bool.and_assoc]
theorem ok:CtxOk Tryz.prog X:=aI tab (spC tvalid.spOk spN) dpN
theorem okM:MOk Tryz.prog X:=fun g sp h=>by cases h
theorem spec (t:List Knot) (d:Int):aj Tryz.prog E 150 [(.lst .knot t),(.int .i64 d)] (.bool (cg t d)) [] :=
  ae ok okM Tryz.call150 Tryz.func150 (by kernel_rfl) (by kernel_rfl) (by kernel_rfl) (by show 2≤31; decide) (by decide) (by rfl) ((run t d).trans (f0_eq t d))
noncomputable def sp:Sp U El:=fun args k=>match args with
  | [.lst .knot t,.int .i64 d]=>k (.bool (cg t d)) []
  | _=>none
theorem spOk:SpOk Tryz.prog E 150 sp where
  det:=fun vs=>by
    unfold sp
    split
    · exact ⟨some (_,_),fun _=>rfl⟩
    · exact ⟨none,fun _=>rfl⟩
  ok:=fun vs k r h=>by
    unfold sp at h
    split at h
    · exact ⟨_,_,spec _ _,h⟩
    · cases h
end shaped
namespace rshape
noncomputable def bd:Code:=(Tryz.f126.body).getD .skip
noncomputable def X:Ctx U El:=⟨E,tds,zeros,eqs,aC [(145,rtvalid.sp)],100000,38,ap [],fun _=>none⟩
noncomputable def nmR:Norm U:=⟨[],[4],[],[],[],[],[]⟩
noncomputable def RR:ab U El:=fun st=>aE nmR st (aD [4] [])
noncomputable def fr0 (t:List Knot) (d:Int):St U El:=⟨[(0,(.lst .knot t)),(1,(.int .i64 d))],[]⟩
noncomputable def sh0 (t:List Knot) (d:Int):R :=
  aa (!(bR t)) (some ((.bool false),[])) (chk (inb (IntKind.wrap .i64 ((Int.ofNat (List.length t)) - (1:Int))) (List.length t)) (chk (inb (0:Int) (List.length t)) (aa ((List.getD t 0 br).kx == (0:Int)) (chk (inb (0:Int) (List.length t)) (aa ((List.getD t 0 br).ky == (0:Int)) (aa ((List.getD t (Int.toNat (IntKind.wrap .i64 ((Int.ofNat (List.length t)) - (1:Int)))) br).kx == d) (some ((.bool (ile ((List.getD t (Int.toNat (IntKind.wrap .i64 ((Int.ofNat (List.length t)) - (1:Int)))) br).ky) (1125899906842624:Int))),[])) (some ((.bool false),[]))) (some ((.bool false),[])))) (some ((.bool false),[])))))
theorem P0 (t d):ac X (cdp [] bd) .d (fr0 t d) RR (fun _ _=>none) RR=sh0 t d:=by kernel_rfl
noncomputable def f0 (t:List Knot) (d:Int):R:=sh0 t d
theorem T0 (t d):ac X bd .d (fr0 t d) RR (fun _ _=>none) RR=f0 t d:=by
  refine (P0 t d).trans ?_
  show _=sh0 t d
  rfl
theorem run (t d):aJ X bd .d nmR [4] [] [(.lst .knot t),(.int .i64 d)]=f0 t d:=T0 t d
theorem f0_eq (t:List Knot) (d:Int):f0 t d=aH (cg t d):=by
  show sh0 t d=_
  unfold sh0 cg iY dX
  cases h:bR t with
  | false=>rfl
  | true =>
    obtain ⟨h1,h2⟩:=dI h
    rw [pa h,aW (show t.length - 1 < t.length by omega),qS h1,ak]
    simp only [Bool.not_true,cO,bL,oB,cQ,Bool.true_and,Bool.and_true,Bool.and_assoc]
theorem ok:CtxOk Tryz.prog X:=aI tab (spC rtvalid.spOk spN) dpN
theorem okM:MOk Tryz.prog X:=fun g sp h=>by cases h
theorem spec (t:List Knot) (d:Int):aj Tryz.prog E 126 [(.lst .knot t),(.int .i64 d)] (.bool (cg t d)) [] :=
  ae ok okM Tryz.call126 Tryz.func126 (by kernel_rfl) (by kernel_rfl) (by kernel_rfl) (by show 2≤38; decide) (by decide) (by rfl) ((run t d).trans (f0_eq t d))
noncomputable def sp:Sp U El:=fun args k=>match args with
  | [.lst .knot t,.int .i64 d]=>k (.bool (cg t d)) []
  | _=>none
theorem spOk:SpOk Tryz.prog E 126 sp where
  det:=fun vs=>by
    unfold sp
    split
    · exact ⟨some (_,_),fun _=>rfl⟩
    · exact ⟨none,fun _=>rfl⟩
  ok:=fun vs k r h=>by
    unfold sp at h
    split at h
    · exact ⟨_,_,spec _ _,h⟩
    · cases h
end rshape
namespace rcurve
noncomputable def bd:Code:=(Tryz.f128.body).getD .skip
noncomputable def X:Ctx U El:=⟨E,tds,zeros,eqs,aC [(145,rtvalid.sp)],100000,39,ap [],fun _=>none⟩
noncomputable def nmR:Norm U:=⟨[],[2],[],[],[],[],[]⟩
noncomputable def RR:ab U El:=fun st=>aE nmR st (aD [2] [])
noncomputable def fr0 (t:List Knot):St U El:=⟨[(0,(.lst .knot t))],[]⟩
noncomputable def sh0 (t:List Knot):R :=
  aa (bR t) (chk (inb (0:Int) (List.length t)) (aa (ile (0:Int) ((List.getD t 0 br).kx)) (chk (inb (IntKind.wrap .i64 ((Int.ofNat (List.length t)) - (1:Int))) (List.length t)) (aa (ile ((List.getD t (Int.toNat (IntKind.wrap .i64 ((Int.ofNat (List.length t)) - (1:Int)))) br).kx) (4194304:Int)) (chk (inb (0:Int) (List.length t)) (aa (ile (0:Int) ((List.getD t 0 br).ky)) (chk (inb (IntKind.wrap .i64 ((Int.ofNat (List.length t)) - (1:Int))) (List.length t)) (some ((.bool (ile ((List.getD t (Int.toNat (IntKind.wrap .i64 ((Int.ofNat (List.length t)) - (1:Int)))) br).ky) (1099511627776:Int))),[]))) (some ((.bool false),[])))) (some ((.bool false),[])))) (some ((.bool false),[])))) (some ((.bool false),[]))
theorem P0 (t):ac X (cdp [] bd) .d (fr0 t) RR (fun _ _=>none) RR=sh0 t:=by kernel_rfl
noncomputable def f0 (t:List Knot):R:=sh0 t
theorem T0 (t):ac X bd .d (fr0 t) RR (fun _ _=>none) RR=f0 t:=by
  refine (P0 t).trans ?_
  show _=sh0 t
  rfl
theorem run (t):aJ X bd .d nmR [2] [] [(.lst .knot t)]=f0 t:=T0 t
theorem f0_eq (t:List Knot):f0 t=aH (d6 t):=by
  show sh0 t=_
  unfold sh0 d6 iY dX
  cases h:bR t with
  | false=>rfl
  | true =>
    obtain ⟨h1,h2⟩:=dI h
    rw [pa h,aW (show t.length - 1 < t.length by omega),qS h1,ak]
    simp only [bG,bL,oB,cQ,Bool.true_and,Bool.and_true,Bool.and_assoc]
theorem ok:CtxOk Tryz.prog X:=aI tab (spC rtvalid.spOk spN) dpN
theorem okM:MOk Tryz.prog X:=fun g sp h=>by cases h
theorem spec (t:List Knot):aj Tryz.prog E 128 [(.lst .knot t)] (.bool (d6 t)) [] :=
  ae ok okM Tryz.call128 Tryz.func128 (by kernel_rfl) (by kernel_rfl) (by kernel_rfl) (by show 1≤39; decide) (by decide) (by rfl) ((run t).trans (f0_eq t))
noncomputable def sp:Sp U El:=fun args k=>match args with
  | [.lst .knot t]=>k (.bool (d6 t)) []
  | _=>none
theorem spOk:SpOk Tryz.prog E 128 sp where
  det:=fun vs=>by
    unfold sp
    split
    · exact ⟨some (_,_),fun _=>rfl⟩
    · exact ⟨none,fun _=>rfl⟩
  ok:=fun vs k r h=>by
    unfold sp at h
    split at h
    · exact ⟨_,_,spec _,h⟩
    · cases h
end rcurve
end Go.Proofs.YthdimnlkcgchoaaGreat
