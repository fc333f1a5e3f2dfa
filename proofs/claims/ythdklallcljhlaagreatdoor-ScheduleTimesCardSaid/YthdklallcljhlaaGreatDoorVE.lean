/- What is large; lists that ascend; searches; works whose works before them are done. -/
import Derived.Test.YthdklallcljhlaaGreatDoorVA
namespace Go.Proofs.YthdklallcljhlaaGreatDoor
set_option linter.unusedSectionVars false
set_option linter.unusedSimpArgs false
set_option linter.unusedVariables false
set_option maxRecDepth 100000
noncomputable def eh (x:Work):Bool:=ilt 20 (Int.ofNat x.wc.length)||(ilt 20 (Int.ofNat x.wa.length)||(ilt 60 (Int.ofNat x.wn.length)||ilt 60 (Int.ofNat x.ws.length)))
noncomputable def dH (l:List Work):Bool:=(ilt 12 (Int.ofNat l.length)&&ile (Int.ofNat l.length) 100)||(ilt 105 (Int.ofNat l.length)||List.any l eh)
noncomputable def okO (l:List Work):Bool:=nle l.length 90000&&List.all l (fun w=>nle w.wa.length 90000&&List.all w.wa (fun a=>inb a l.length))
noncomputable def okV (l:List Work):Bool:=nle l.length 200&&List.all l (fun w=>nle w.wa.length 90000&&nle w.wc.length 90000)
noncomputable def pZ (lim:Int) (l:List Int) (i:Nat) (x:Int):Bool:=ilt x 0||(ile lim x||(ilt 0 (i:Int)&&ile x (List.getD l (i - 1) dS)))
noncomputable def fM (lim:Int) (l:List Int):Bool:=mh (fun i x => !(pZ lim l i x)) 0 l
noncomputable def cS (x y:Int):Bool:=x == y
noncomputable def bE (dn:List Bool) (a:Int):Bool := !(List.getD dn (Int.toNat a) d_bool)
noncomputable def rdy (dn:List Bool) (w:Work):Bool:=List.all w.wa (fun a=>List.getD dn (Int.toNat a) d_bool)
namespace lg1
noncomputable def bd:Code:=(Tryz.f31.body).getD .skip
noncomputable def X:Ctx U El:=⟨E,tds,zeros,eqs,aK [],100000,25,aC [],fun _=>none⟩
noncomputable def nmR:Norm U:=⟨[],[2],[],[],[],[],[]⟩
noncomputable def RR:ai U El:=fun st=>aN nmR st (aJ [2] [])
noncomputable def fr0 (x:Work):St U El:=⟨[(0,(.agg [(.str x.wn),(.int .i64 x.wh),(.lst .int x.wc),(.str x.ws),(.lst .int x.wa),(.int .i64 x.wd),(.int .i64 x.wp)]))],[]⟩
noncomputable def sh0 (x:Work):R :=
  aj (ilt (20:Int) (Int.ofNat (List.length x.wc))) (some ((.bool true),[])) (aj (ilt (20:Int) (Int.ofNat (List.length x.wa))) (some ((.bool true),[])) (aj (ilt (60:Int) (Int.ofNat (List.length x.wn))) (some ((.bool true),[])) (some ((.bool (ilt (60:Int) (Int.ofNat (List.length x.ws)))),[]))))
theorem P0 (x):al X (cdp [] bd) .d (fr0 x) RR (fun _ _=>none) RR=sh0 x:=by kernel_rfl
noncomputable def f0 (x:Work):R:=sh0 x
theorem T0 (x):al X bd .d (fr0 x) RR (fun _ _=>none) RR=f0 x:=by
  refine (P0 x).trans ?_
  show _=sh0 x
  rfl
theorem run (x):aY X bd .d nmR [2] [] [(.agg [(.str x.wn),(.int .i64 x.wh),(.lst .int x.wc),(.str x.ws),(.lst .int x.wa),(.int .i64 x.wd),(.int .i64 x.wp)])]=f0 x:=T0 x
theorem f0_eq (x:Work):f0 x=bz (eh x):=by
  show sh0 x=_
  unfold sh0 eh
  simp only [oB,cOr]
theorem ok:CtxOk Tryz.prog X:=aW tab spN dpN
theorem okM:MOk Tryz.prog X:=fun g sp h=>by cases h
theorem spec (x:Work):aq Tryz.prog E 31 [(.agg [(.str x.wn),(.int .i64 x.wh),(.lst .int x.wc),(.str x.ws),(.lst .int x.wa),(.int .i64 x.wd),(.int .i64 x.wp)])] (.bool (eh x)) [] :=
  ap ok okM Tryz.call31 Tryz.func31 (by kernel_rfl) (by kernel_rfl) (by kernel_rfl) (by show 1≤25; decide) (by decide) (by rfl) ((run x).trans (f0_eq x))
noncomputable def sp:Sp U El:=fun args k=>match args with
  | [.agg [.str x_wn,.int .i64 x_wh,.lst .int x_wc,.str x_ws,.lst .int x_wa,.int .i64 x_wd,.int .i64 x_wp]]=>k (.bool (eh (⟨x_wn,x_wh,x_wc,x_ws,x_wa,x_wd,x_wp⟩:Work))) []
  | _=>none
theorem spOk:SpOk Tryz.prog E 31 sp where
  det:=fun vs=>by
    unfold sp
    split
    · exact ⟨some (_,_),fun _=>rfl⟩
    · exact ⟨none,fun _=>rfl⟩
  ok:=fun vs k r h=>by
    unfold sp at h
    split at h
    · exact ⟨_,_,spec ⟨_,_,_,_,_,_,_⟩,h⟩
    · cases h
end lg1
namespace lg1X
noncomputable def bd:Code:=(Tryz.f24.body).getD .skip
noncomputable def X:Ctx U El:=⟨E,tds,zeros,eqs,aK [(31,lg1.sp)],100000,19,aC [],fun _=>none⟩
noncomputable def nmR:Norm U:=⟨[],[4],[],[],[],[],[]⟩
noncomputable def RR:ai U El:=fun st=>aN nmR st (aJ [4] [])
noncomputable def nm1:Norm U:=⟨[],[],[],[],[],[],[]⟩
noncomputable def nm2:Norm U:=⟨[],[0,1,7,8],[],[],[],[],[]⟩
abbrev Y1:=R
abbrev Y2:=(List Work)→Int→Int→R
noncomputable def fr0 (l:List Work):St U El:=⟨[(0,(.lst .work l)),(1,(.fn 31 [] []))],[]⟩
noncomputable def fr1:St U El:=⟨[],[]⟩
noncomputable def fr2 (s0:List Work) (x7:Int) (x8:Int):St U El:=⟨[(0,(.lst .work s0)),(1,(.fn 31 [] [])),(7,(.int .i64 x7)),(8,(.int .i64 x8))],[]⟩
noncomputable def sh0 (l:List Work) (k2:Y2):R :=
  k2 l (Int.ofNat (List.length l)) (0:Int)
noncomputable def sh1:R :=
  some ((.int .i64 (-1:Int)),[])
noncomputable def sh2 (s0:List Work) (x7:Int) (x8:Int) (k1:Y1) (k2:Y2):R :=
  aj (ilt x8 x7) (chk (inb x8 (List.length s0)) (aj (eh (List.getD s0 (Int.toNat x8) ac)) (some ((.int .i64 x8),[])) (k2 s0 x7 (IntKind.wrap .i64 (x8+(1:Int)))))) (k1)
noncomputable def it2 (Kb1:ai U El) (n:Nat):ai U El:=cP nm2 (fun st' K'=>al X (cdp [1,0,1,0,0] bd) .d st' K' (aS 0 (aF nm1 Kb1) (fun _ _=>none)) RR) n
noncomputable def ct1:ai U El:=fun st=>al X (cdp [1,1] bd) .d st RR (fun _ _=>none) RR
theorem P0 (l):al X (cdp [] bd) (.seq none .d (.seq (some nm1) (.seq none .d (.block (.loop nm2 .d))) .d)) (fr0 l) RR (fun _ _=>none) RR=sh0 l (fun y0 y1 y2=>(hid (it2 (hid ct1) 100000)) (fr2 y0 y1 y2)):=by kernel_rfl
theorem P1:ct1 (fr1)=sh1:=by kernel_rfl
theorem P2 (s0 x7 x8) (Kb1 Kb2:ai U El):al X (cdp [1,0,1,0,0] bd) .d (fr2 s0 x7 x8) (aF nm2 Kb2) (aS 0 (aF nm1 Kb1) (fun _ _=>none)) RR=sh2 s0 x7 x8 (Kb1 (fr1)) (fun y0 y1 y2=>Kb2 (fr2 y0 y1 y2)):=by kernel_rfl
noncomputable def f1:R:=sh1
noncomputable def f2:Nat→Y2
  | 0=>fun _ _ _=>none
  | n+1=>fun s0 x7 x8=>sh2 s0 x7 x8 f1 (f2 n)
noncomputable def f0 (l:List Work):R:=sh0 l (f2 100000)
theorem T1:(hid ct1) (fr1)=f1:=by
  refine (congrFun (au _) _).trans <| (P1).trans ?_
  show _=sh1
  rfl
theorem T2:∀ (n:Nat),∀ s0 x7 x8,it2 (hid ct1) n (fr2 s0 x7 x8)=f2 n s0 x7 x8:=by
  intro n
  induction n with
  | zero=>intros; rfl
  | succ n ih =>
    intro s0 x7 x8
    refine (P2 s0 x7 x8 (hid ct1) (it2 (hid ct1) n)).trans ?_
    show _=sh2 s0 x7 x8 f1 (f2 n)
    simp only [T1,ih]
theorem H2 (s0 x7 x8):hid (it2 (hid ct1) 100000) (fr2 s0 x7 x8)=f2 100000 s0 x7 x8:=(congrFun (au _) _).trans (T2 100000 s0 x7 x8)
theorem T0 (l):al X bd (.seq none .d (.seq (some nm1) (.seq none .d (.block (.loop nm2 .d))) .d)) (fr0 l) RR (fun _ _=>none) RR=f0 l:=by
  refine (P0 l).trans ?_
  show _=sh0 l (f2 100000)
  simp only [H2]
theorem run (l):aY X bd (.seq none .d (.seq (some nm1) (.seq none .d (.block (.loop nm2 .d))) .d)) nmR [4] [] [(.lst .work l),(.fn 31 [] [])]=f0 l:=T0 l
theorem f0_eq (l:List Work) (h:(nle (List.length l) 90000)=true):f0 l=cW (aZ eh 0 l):=by
  have hl:=du h
  refine (gg l (by omega) (fun n_ (_:Unit) i_=>f2 n_ l (Int.ofNat l.length) i_) _ (fun _=>cW (-1)) (fun n_ u_ i_ hi_ => ?_) (fun n_ u_ => ?_) 100000 0 () (by omega) (by omega)).trans (dU eh cW l 0)
  · show sh2 l (Int.ofNat l.length) i_ f1 (f2 n_) = _
    unfold sh2
    rw [ci (by simp; omega),bD hi_,ar,az hi_]
    rfl
  · show sh2 l (Int.ofNat l.length) (l.length : Int) f1 (f2 n_) = _
    unfold sh2
    rw [bZ (by simp)]
    rfl
theorem ok:CtxOk Tryz.prog X:=aW tab (spC lg1.spOk spN) dpN
theorem okM:MOk Tryz.prog X:=fun g sp h=>by cases h
theorem spec (l:List Work) (h:(nle (List.length l) 90000)=true):aq Tryz.prog E 24 [(.lst .work l),(.fn 31 [] [])] (.int .i64 (aZ eh 0 l)) [] :=
  ap ok okM Tryz.call24 Tryz.func24 (by kernel_rfl) (by kernel_rfl) (by kernel_rfl) (by show 2≤19; decide) (by decide) (by rfl) ((run l).trans (f0_eq l h))
noncomputable def sp:Sp U El:=fun args k=>match args with
  | [.lst .work l,.fn 31 [] []]=>chk (nle (List.length l) 90000) (k (.int .i64 (aZ eh 0 l)) [])
  | _=>none
theorem spOk:SpOk Tryz.prog E 24 sp where
  det:=fun vs=>by
    unfold sp
    split
    · exact bq _ _ _
    · exact ⟨none,fun _=>rfl⟩
  ok:=fun vs k r h=>by
    unfold sp at h
    split at h
    · obtain ⟨h1, h2⟩ := ab h
      exact ⟨_,_,spec _ h1,h2⟩
    · cases h
end lg1X
namespace lg1C
noncomputable def bd:Code:=(Tryz.f30.body).getD .skip
noncomputable def X:Ctx U El:=⟨E,tds,zeros,eqs,aK [(24,lg1X.sp)],100000,9,aC [],fun _=>none⟩
noncomputable def nmR:Norm U:=⟨[],[4],[],[],[],[],[]⟩
noncomputable def RR:ai U El:=fun st=>aN nmR st (aJ [4] [])
noncomputable def fr0 (l:List Work):St U El:=⟨[(0,(.lst .work l)),(1,(.fn 31 [] []))],[]⟩
noncomputable def sh0 (l:List Work):R :=
  chk (nle (List.length l) 90000) (some ((.bool (ile (0:Int) (aZ eh 0 l))),[]))
theorem P0 (l):al X (cdp [] bd) .d (fr0 l) RR (fun _ _=>none) RR=sh0 l:=by kernel_rfl
noncomputable def f0 (l:List Work):R:=sh0 l
theorem T0 (l):al X bd .d (fr0 l) RR (fun _ _=>none) RR=f0 l:=by
  refine (P0 l).trans ?_
  show _=sh0 l
  rfl
theorem run (l):aY X bd .d nmR [4] [] [(.lst .work l),(.fn 31 [] [])]=f0 l:=T0 l
theorem f0_eq (l:List Work) (h:(nle (List.length l) 90000)=true):f0 l=bz (List.any l eh):=by
  show chk _ (bz _)=_
  rw [h,b8,dV]
theorem ok:CtxOk Tryz.prog X:=aW tab (spC lg1X.spOk spN) dpN
theorem okM:MOk Tryz.prog X:=fun g sp h=>by cases h
theorem spec (l:List Work) (h:(nle (List.length l) 90000)=true):aq Tryz.prog E 30 [(.lst .work l),(.fn 31 [] [])] (.bool (List.any l eh)) [] :=
  ap ok okM Tryz.call30 Tryz.func30 (by kernel_rfl) (by kernel_rfl) (by kernel_rfl) (by show 2≤9; decide) (by decide) (by rfl) ((run l).trans (f0_eq l h))
noncomputable def sp:Sp U El:=fun args k=>match args with
  | [.lst .work l,.fn 31 [] []]=>chk (nle (List.length l) 90000) (k (.bool (List.any l eh)) [])
  | _=>none
theorem spOk:SpOk Tryz.prog E 30 sp where
  det:=fun vs=>by
    unfold sp
    split
    · exact bq _ _ _
    · exact ⟨none,fun _=>rfl⟩
  ok:=fun vs k r h=>by
    unfold sp at h
    split at h
    · obtain ⟨h1, h2⟩ := ab h
      exact ⟨_,_,spec _ h1,h2⟩
    · cases h
end lg1C
namespace large
noncomputable def bd:Code:=(Tryz.f6.body).getD .skip
noncomputable def X:Ctx U El:=⟨E,tds,zeros,eqs,aK [(30,lg1C.sp)],100000,20,aC [],fun _=>none⟩
noncomputable def nmR:Norm U:=⟨[],[2],[],[],[],[],[]⟩
noncomputable def RR:ai U El:=fun st=>aN nmR st (aJ [2] [])
noncomputable def fr0 (l:List Work):St U El:=⟨[(0,(.lst .work l))],[]⟩
noncomputable def sh0 (l:List Work):R :=
  aj (ilt (12:Int) (Int.ofNat (List.length l))) (aj (ile (Int.ofNat (List.length l)) (100:Int)) (some ((.bool true),[])) (aj (ilt (105:Int) (Int.ofNat (List.length l))) (some ((.bool true),[])) (chk (nle (List.length l) 90000) (some ((.bool (List.any l eh)),[]))))) (aj (ilt (105:Int) (Int.ofNat (List.length l))) (some ((.bool true),[])) (chk (nle (List.length l) 90000) (some ((.bool (List.any l eh)),[]))))
theorem P0 (l):al X (cdp [] bd) .d (fr0 l) RR (fun _ _=>none) RR=sh0 l:=by kernel_rfl
noncomputable def f0 (l:List Work):R:=sh0 l
theorem T0 (l):al X bd .d (fr0 l) RR (fun _ _=>none) RR=f0 l:=by
  refine (P0 l).trans ?_
  show _=sh0 l
  rfl
theorem run (l):aY X bd .d nmR [2] [] [(.lst .work l)]=f0 l:=T0 l
theorem f0_eq (l:List Work):f0 l=bz (dH l):=by
  show sh0 l=_
  unfold sh0 dH
  by_cases h:(105:Int) < Int.ofNat l.length
  · rw [show ilt 105 (Int.ofNat l.length) = true from ci h]
    cases ilt 12 (Int.ofNat l.length)<;>cases ile (Int.ofNat l.length) 100<;>rfl
  · rw [show ilt 105 (Int.ofNat l.length) = false from bZ h, b7 (show l.length ≤ 90000 by simp at h; omega)]
    cases ilt 12 (Int.ofNat l.length)<;>cases ile (Int.ofNat l.length) 100<;>rfl
theorem ok:CtxOk Tryz.prog X:=aW tab (spC lg1C.spOk spN) dpN
theorem okM:MOk Tryz.prog X:=fun g sp h=>by cases h
theorem spec (l:List Work):aq Tryz.prog E 6 [(.lst .work l)] (.bool (dH l)) [] :=
  ap ok okM Tryz.call6 Tryz.func6 (by kernel_rfl) (by kernel_rfl) (by kernel_rfl) (by show 1≤20; decide) (by decide) (by rfl) ((run l).trans (f0_eq l))
noncomputable def sp:Sp U El:=fun args k=>match args with
  | [.lst .work l]=>k (.bool (dH l)) []
  | _=>none
theorem spOk:SpOk Tryz.prog E 6 sp where
  det:=fun vs=>by
    unfold sp
    split
    · exact ⟨some (_,_),fun _=>rfl⟩
    · exact ⟨none,fun _=>rfl⟩
  ok:=fun vs k r h=>by
    unfold sp at h
    split at h
    · exact ⟨_,_,spec _,h⟩
    · cases h
end large
theorem sx (i:Nat) (h0:0 < i) (h:i≤1000000):IntKind.wrap .i64 ((i:Int) - 1)=((i - 1:Nat):Int):=by rw [dD (by omega) (by omega)]; omega
namespace ascending
noncomputable def bd:Code:=(Tryz.f67.body).getD .skip
noncomputable def X:Ctx U El:=⟨E,tds,zeros,eqs,aK [],100000,35,aC [],fun _=>none⟩
noncomputable def nmR:Norm U:=⟨[],[4],[],[],[],[],[]⟩
noncomputable def RR:ai U El:=fun st=>aN nmR st (aJ [4] [])
noncomputable def nm1:Norm U:=⟨[],[],[],[],[],[],[]⟩
noncomputable def nm2:Norm U:=⟨[],[0,1,7,8,9],[],[],[],[],[]⟩
noncomputable def nm3:Norm U:=⟨[],[0,1,7,8,9],[],[],[],[],[]⟩
abbrev Y1:=R
abbrev Y2:=(List Int)→Int→(List Int)→Int→Int→R
abbrev Y3:=(List Int)→Int→(List Int)→Int→Int→R
noncomputable def fr0 (l:List Int) (lim:Int):St U El:=⟨[(0,(.lst .int l)),(1,(.int .i64 lim))],[]⟩
noncomputable def fr1:St U El:=⟨[],[]⟩
noncomputable def fr2 (l0:List Int) (aA:Int) (x7:List Int) (x8:Int) (x9:Int):St U El:=⟨[(0,(.lst .int l0)),(1,(.int .i64 aA)),(7,(.lst .int x7)),(8,(.int .i64 x8)),(9,(.int .i64 x9))],[]⟩
noncomputable def fr3 (l0:List Int) (aA:Int) (x7:List Int) (x8:Int) (x9:Int):St U El:=⟨[(0,(.lst .int l0)),(1,(.int .i64 aA)),(7,(.lst .int x7)),(8,(.int .i64 x8)),(9,(.int .i64 x9))],[]⟩
noncomputable def sh0 (l:List Int) (lim:Int) (k2:Y2):R :=
  k2 l lim l (Int.ofNat (List.length l)) (0:Int)
noncomputable def sh1:R :=
  some ((.bool true),[])
noncomputable def sh2 (l0:List Int) (aA:Int) (x7:List Int) (x8:Int) (x9:Int) (k1:Y1) (k3:Y3):R :=
  aj (ilt x9 x8) (chk (inb x9 (List.length x7)) (aj (ilt (List.getD x7 (Int.toNat x9) dS) (0:Int)) (some ((.bool false),[])) (aj (ile aA (List.getD x7 (Int.toNat x9) dS)) (some ((.bool false),[])) (aj (ilt (0:Int) x9) (chk (inb (IntKind.wrap .i64 (x9 - (1:Int))) (List.length l0)) (aj (ile (List.getD x7 (Int.toNat x9) dS) (List.getD l0 (Int.toNat (IntKind.wrap .i64 (x9 - (1:Int)))) dS)) (some ((.bool false),[])) (k3 l0 aA x7 x8 x9))) (k3 l0 aA x7 x8 x9))))) (k1)
noncomputable def sh3 (l0:List Int) (aA:Int) (x7:List Int) (x8:Int) (x9:Int) (k2:Y2):R :=
  k2 l0 aA x7 x8 (IntKind.wrap .i64 (x9+(1:Int)))
noncomputable def it2 (Kb1:ai U El) (n:Nat):ai U El:=cP nm2 (fun st' K'=>al X (cdp [1,0,1,0,0] bd) (.seq none .d (.seq none .d (.seq (some nm3) .d .d))) st' K' (aS 0 (aF nm1 Kb1) (fun _ _=>none)) RR) n
noncomputable def ct1:ai U El:=fun st=>al X (cdp [1,1] bd) .d st RR (fun _ _=>none) RR
noncomputable def ct3 (Kb1 Kb2:ai U El):ai U El:=fun st=>al X (cdp [1,0,1,0,0,1,1,1] bd) .d st (aF nm2 Kb2) (aS 0 (aF nm1 Kb1) (fun _ _=>none)) RR
theorem P0 (l lim):al X (cdp [] bd) (.seq none .d (.seq (some nm1) (.seq none .d (.block (.loop nm2 (.seq none .d (.seq none .d (.seq (some nm3) .d .d)))))) .d)) (fr0 l lim) RR (fun _ _=>none) RR=sh0 l lim (fun y0 y1 y2 y3 y4=>(hid (it2 (hid ct1) 100000)) (fr2 y0 y1 y2 y3 y4)):=by kernel_rfl
theorem P1:ct1 (fr1)=sh1:=by kernel_rfl
theorem P2 (l0 aA x7 x8 x9) (Kb1 Kb2:ai U El):al X (cdp [1,0,1,0,0] bd) (.seq none .d (.seq none .d (.seq (some nm3) .d .d))) (fr2 l0 aA x7 x8 x9) (aF nm2 Kb2) (aS 0 (aF nm1 Kb1) (fun _ _=>none)) RR=sh2 l0 aA x7 x8 x9 (Kb1 (fr1)) (fun y0 y1 y2 y3 y4=>(hid (ct3 Kb1 Kb2)) (fr3 y0 y1 y2 y3 y4)):=by kernel_rfl
theorem P3 (l0 aA x7 x8 x9) (Kb1 Kb2:ai U El):ct3 Kb1 Kb2 (fr3 l0 aA x7 x8 x9)=sh3 l0 aA x7 x8 x9 (fun y0 y1 y2 y3 y4=>Kb2 (fr2 y0 y1 y2 y3 y4)):=by kernel_rfl
noncomputable def f1:R:=sh1
noncomputable def f3 (k2:Y2) (l0:List Int) (aA:Int) (x7:List Int) (x8:Int) (x9:Int):R:=sh3 l0 aA x7 x8 x9 k2
noncomputable def f2:Nat→Y2
  | 0=>fun _ _ _ _ _=>none
  | n+1=>fun l0 aA x7 x8 x9=>sh2 l0 aA x7 x8 x9 f1 (f3 (f2 n))
noncomputable def f0 (l:List Int) (lim:Int):R:=sh0 l lim (f2 100000)
theorem T1:(hid ct1) (fr1)=f1:=by
  refine (congrFun (au _) _).trans <| (P1).trans ?_
  show _=sh1
  rfl
theorem T3 (KL2:ai U El) (k2:Y2) (h2:∀ l0 aA x7 x8 x9,KL2 (fr2 l0 aA x7 x8 x9)=k2 l0 aA x7 x8 x9) (l0 aA x7 x8 x9):(hid (ct3 (hid ct1) KL2)) (fr3 l0 aA x7 x8 x9)=f3 k2 l0 aA x7 x8 x9:=by
  refine (congrFun (au _) _).trans <| (P3 l0 aA x7 x8 x9 (hid ct1) KL2).trans ?_
  show _=sh3 l0 aA x7 x8 x9 k2
  simp only [h2]
theorem T2:∀ (n:Nat),∀ l0 aA x7 x8 x9,it2 (hid ct1) n (fr2 l0 aA x7 x8 x9)=f2 n l0 aA x7 x8 x9:=by
  intro n
  induction n with
  | zero=>intros; rfl
  | succ n ih =>
    intro l0 aA x7 x8 x9
    refine (P2 l0 aA x7 x8 x9 (hid ct1) (it2 (hid ct1) n)).trans ?_
    show _=sh2 l0 aA x7 x8 x9 f1 (f3 (f2 n))
    simp only [T1,T3 (it2 (hid ct1) n) (f2 n) ih]
theorem H2 (l0 aA x7 x8 x9):hid (it2 (hid ct1) 100000) (fr2 l0 aA x7 x8 x9)=f2 100000 l0 aA x7 x8 x9:=(congrFun (au _) _).trans (T2 100000 l0 aA x7 x8 x9)
theorem T0 (l lim):al X bd (.seq none .d (.seq (some nm1) (.seq none .d (.block (.loop nm2 (.seq none .d (.seq none .d (.seq (some nm3) .d .d)))))) .d)) (fr0 l lim) RR (fun _ _=>none) RR=f0 l lim:=by
  refine (P0 l lim).trans ?_
  show _=sh0 l lim (f2 100000)
  simp only [H2]
theorem run (l lim):aY X bd (.seq none .d (.seq (some nm1) (.seq none .d (.block (.loop nm2 (.seq none .d (.seq none .d (.seq (some nm3) .d .d)))))) .d)) nmR [4] [] [(.lst .int l),(.int .i64 lim)]=f0 l lim:=T0 l lim
theorem loop (l : List Int) (lim : Int) (hl : l.length ≤ 90000) : ∀ (n i : Nat), l.length < n + i → i ≤ l.length → f2 n l lim l (Int.ofNat l.length) (i : Int) = bz (mh (fun i x => !(pZ lim l i x)) i (l.drop i)) := by
  intro n
  induction n with
  | zero=>intro i h1 h2; omega
  | succ n ih =>
    intro i h1 h2
    show sh2 l lim l (Int.ofNat l.length) (i:Int) f1 (f3 (f2 n))=_
    unfold sh2
    by_cases hi:i < l.length
    · have e : f3 (f2 n) l lim l (Int.ofNat l.length) (i : Int) = bz (mh (fun i x => !(pZ lim l i x)) (i + 1) (l.drop (i + 1))) := by
        show f2 n l lim l (Int.ofNat l.length) (IntKind.wrap .i64 ((i:Int)+1))=_
        rw [cl i (by omega)]
        exact ih (i+1) (by omega) hi
      rw [ci (by simp; omega),bD hi,ar,az hi,e,bR hi]
      simp only [mh,pZ,cK,b8]
      by_cases h0:i=0
      · subst h0
        rw [show ilt 0 (((0:Nat):Int))=false from bZ (by simp)]
        cases ilt l[0] 0<;>cases ile lim l[0]<;>rfl
      · rw [ci (show (0 : Int) < (i : Int) by omega), sx i (by omega) (by omega), bD (show i - 1 < l.length by omega), ar]
        cases ilt l[i] 0<;>cases ile lim l[i]<;>cases ile l[i] (List.getD l (i - 1) dS)<;>rfl
    · have : i = l.length := by omega
      subst this
      rw [bZ (by simp),List.drop_length]
      rfl
theorem f0_eq (l:List Int) (lim:Int) (h:nle (List.length l) 90000=true):f0 l lim=bz (fM lim l):=loop l lim (du h) 100000 0 (by have:=du h; omega) (by omega)
theorem ok:CtxOk Tryz.prog X:=aW tab spN dpN
theorem okM:MOk Tryz.prog X:=fun g sp h=>by cases h
theorem spec (l:List Int) (lim:Int) (h:(nle (List.length l) 90000)=true):aq Tryz.prog E 67 [(.lst .int l),(.int .i64 lim)] (.bool (fM lim l)) [] :=
  ap ok okM Tryz.call67 Tryz.func67 (by kernel_rfl) (by kernel_rfl) (by kernel_rfl) (by show 2≤35; decide) (by decide) (by rfl) ((run l lim).trans (f0_eq l lim h))
noncomputable def sp:Sp U El:=fun args k=>match args with
  | [.lst .int l,.int .i64 lim]=>chk (nle (List.length l) 90000) (k (.bool (fM lim l)) [])
  | _=>none
theorem spOk:SpOk Tryz.prog E 67 sp where
  det:=fun vs=>by
    unfold sp
    split
    · exact bq _ _ _
    · exact ⟨none,fun _=>rfl⟩
  ok:=fun vs k r h=>by
    unfold sp at h
    split at h
    · obtain ⟨h1, h2⟩ := ab h
      exact ⟨_,_,spec _ _ h1,h2⟩
    · cases h
end ascending
namespace idxI
noncomputable def bd:Code:=(Tryz.f117.body).getD .skip
noncomputable def X:Ctx U El:=⟨E,tds,zeros,eqs,aK [],100000,19,aC [],fun _=>none⟩
noncomputable def nmR:Norm U:=⟨[],[4],[],[],[],[],[]⟩
noncomputable def RR:ai U El:=fun st=>aN nmR st (aJ [4] [])
noncomputable def nm1:Norm U:=⟨[],[],[],[],[],[],[]⟩
noncomputable def nm2:Norm U:=⟨[],[0,1,7,8],[],[],[],[],[]⟩
abbrev Y1:=R
abbrev Y2:=(List Int)→Int→Int→Int→R
noncomputable def fr0 (l:List Int) (x:Int):St U El:=⟨[(0,(.lst .int l)),(1,(.int .i64 x))],[]⟩
noncomputable def fr1:St U El:=⟨[],[]⟩
noncomputable def fr2 (s0:List Int) (v1:Int) (x7:Int) (x8:Int):St U El:=⟨[(0,(.lst .int s0)),(1,(.int .i64 v1)),(7,(.int .i64 x7)),(8,(.int .i64 x8))],[]⟩
noncomputable def sh0 (l:List Int) (x:Int) (k2:Y2):R :=
  k2 l x (Int.ofNat (List.length l)) (0:Int)
noncomputable def sh1:R :=
  some ((.int .i64 (-1:Int)),[])
noncomputable def sh2 (s0:List Int) (v1:Int) (x7:Int) (x8:Int) (k1:Y1) (k2:Y2):R :=
  aj (ilt x8 x7) (chk (inb x8 (List.length s0)) (aj (v1 == (List.getD s0 (Int.toNat x8) dS)) (some ((.int .i64 x8),[])) (k2 s0 v1 x7 (IntKind.wrap .i64 (x8+(1:Int)))))) (k1)
noncomputable def it2 (Kb1:ai U El) (n:Nat):ai U El:=cP nm2 (fun st' K'=>al X (cdp [1,0,1,0,0] bd) .d st' K' (aS 0 (aF nm1 Kb1) (fun _ _=>none)) RR) n
noncomputable def ct1:ai U El:=fun st=>al X (cdp [1,1] bd) .d st RR (fun _ _=>none) RR
theorem P0 (l x):al X (cdp [] bd) (.seq none .d (.seq (some nm1) (.seq none .d (.block (.loop nm2 .d))) .d)) (fr0 l x) RR (fun _ _=>none) RR=sh0 l x (fun y0 y1 y2 y3=>(hid (it2 (hid ct1) 100000)) (fr2 y0 y1 y2 y3)):=by kernel_rfl
theorem P1:ct1 (fr1)=sh1:=by kernel_rfl
theorem P2 (s0 v1 x7 x8) (Kb1 Kb2:ai U El):al X (cdp [1,0,1,0,0] bd) .d (fr2 s0 v1 x7 x8) (aF nm2 Kb2) (aS 0 (aF nm1 Kb1) (fun _ _=>none)) RR=sh2 s0 v1 x7 x8 (Kb1 (fr1)) (fun y0 y1 y2 y3=>Kb2 (fr2 y0 y1 y2 y3)):=by kernel_rfl
noncomputable def f1:R:=sh1
noncomputable def f2:Nat→Y2
  | 0=>fun _ _ _ _=>none
  | n+1=>fun s0 v1 x7 x8=>sh2 s0 v1 x7 x8 f1 (f2 n)
noncomputable def f0 (l:List Int) (x:Int):R:=sh0 l x (f2 100000)
theorem T1:(hid ct1) (fr1)=f1:=by
  refine (congrFun (au _) _).trans <| (P1).trans ?_
  show _=sh1
  rfl
theorem T2:∀ (n:Nat),∀ s0 v1 x7 x8,it2 (hid ct1) n (fr2 s0 v1 x7 x8)=f2 n s0 v1 x7 x8:=by
  intro n
  induction n with
  | zero=>intros; rfl
  | succ n ih =>
    intro s0 v1 x7 x8
    refine (P2 s0 v1 x7 x8 (hid ct1) (it2 (hid ct1) n)).trans ?_
    show _=sh2 s0 v1 x7 x8 f1 (f2 n)
    simp only [T1,ih]
theorem H2 (s0 v1 x7 x8):hid (it2 (hid ct1) 100000) (fr2 s0 v1 x7 x8)=f2 100000 s0 v1 x7 x8:=(congrFun (au _) _).trans (T2 100000 s0 v1 x7 x8)
theorem T0 (l x):al X bd (.seq none .d (.seq (some nm1) (.seq none .d (.block (.loop nm2 .d))) .d)) (fr0 l x) RR (fun _ _=>none) RR=f0 l x:=by
  refine (P0 l x).trans ?_
  show _=sh0 l x (f2 100000)
  simp only [H2]
theorem run (l x):aY X bd (.seq none .d (.seq (some nm1) (.seq none .d (.block (.loop nm2 .d))) .d)) nmR [4] [] [(.lst .int l),(.int .i64 x)]=f0 l x:=T0 l x
theorem f0_eq (l:List Int) (x:Int) (h:(nle (List.length l) 90000)=true):f0 l x=cW (aZ (cS x) 0 l):=by
  have hl:=du h
  refine (gg l (by omega) (fun n_ (_:Unit) i_=>f2 n_ l x (Int.ofNat l.length) i_) _ (fun _=>cW (-1)) (fun n_ u_ i_ hi_ => ?_) (fun n_ u_ => ?_) 100000 0 () (by omega) (by omega)).trans (dU (cS x) cW l 0)
  · show sh2 l x (Int.ofNat l.length) i_ f1 (f2 n_) = _
    unfold sh2
    rw [ci (by simp; omega),bD hi_,ar,az hi_]
    rfl
  · show sh2 l x (Int.ofNat l.length) (l.length : Int) f1 (f2 n_) = _
    unfold sh2
    rw [bZ (by simp)]
    rfl
theorem ok:CtxOk Tryz.prog X:=aW tab spN dpN
theorem okM:MOk Tryz.prog X:=fun g sp h=>by cases h
theorem spec (l:List Int) (x:Int) (h:(nle (List.length l) 90000)=true):aq Tryz.prog E 117 [(.lst .int l),(.int .i64 x)] (.int .i64 (aZ (cS x) 0 l)) [] :=
  ap ok okM Tryz.call117 Tryz.func117 (by kernel_rfl) (by kernel_rfl) (by kernel_rfl) (by show 2≤19; decide) (by decide) (by rfl) ((run l x).trans (f0_eq l x h))
noncomputable def sp:Sp U El:=fun args k=>match args with
  | [.lst .int l,.int .i64 x]=>chk (nle (List.length l) 90000) (k (.int .i64 (aZ (cS x) 0 l)) [])
  | _=>none
theorem spOk:SpOk Tryz.prog E 117 sp where
  det:=fun vs=>by
    unfold sp
    split
    · exact bq _ _ _
    · exact ⟨none,fun _=>rfl⟩
  ok:=fun vs k r h=>by
    unfold sp at h
    split at h
    · obtain ⟨h1, h2⟩ := ab h
      exact ⟨_,_,spec _ _ h1,h2⟩
    · cases h
end idxI
namespace hasI
noncomputable def bd:Code:=(Tryz.f82.body).getD .skip
noncomputable def X:Ctx U El:=⟨E,tds,zeros,eqs,aK [(117,idxI.sp)],100000,9,aC [],fun _=>none⟩
noncomputable def nmR:Norm U:=⟨[],[4],[],[],[],[],[]⟩
noncomputable def RR:ai U El:=fun st=>aN nmR st (aJ [4] [])
noncomputable def fr0 (l:List Int) (x:Int):St U El:=⟨[(0,(.lst .int l)),(1,(.int .i64 x))],[]⟩
noncomputable def sh0 (l:List Int) (x:Int):R :=
  chk (nle (List.length l) 90000) (some ((.bool (ile (0:Int) (aZ (cS x) 0 l))),[]))
theorem P0 (l x):al X (cdp [] bd) .d (fr0 l x) RR (fun _ _=>none) RR=sh0 l x:=by kernel_rfl
noncomputable def f0 (l:List Int) (x:Int):R:=sh0 l x
theorem T0 (l x):al X bd .d (fr0 l x) RR (fun _ _=>none) RR=f0 l x:=by
  refine (P0 l x).trans ?_
  show _=sh0 l x
  rfl
theorem run (l x):aY X bd .d nmR [4] [] [(.lst .int l),(.int .i64 x)]=f0 l x:=T0 l x
theorem f0_eq (l:List Int) (x:Int) (h:(nle (List.length l) 90000)=true):f0 l x=bz (List.any l (cS x)):=by
  show sh0 l x=_
  unfold sh0
  rw [h,← dV (cS x) l 0]
  rfl
theorem ok:CtxOk Tryz.prog X:=aW tab (spC idxI.spOk spN) dpN
theorem okM:MOk Tryz.prog X:=fun g sp h=>by cases h
theorem spec (l:List Int) (x:Int) (h:(nle (List.length l) 90000)=true):aq Tryz.prog E 82 [(.lst .int l),(.int .i64 x)] (.bool (List.any l (cS x))) [] :=
  ap ok okM Tryz.call82 Tryz.func82 (by kernel_rfl) (by kernel_rfl) (by kernel_rfl) (by show 2≤9; decide) (by decide) (by rfl) ((run l x).trans (f0_eq l x h))
noncomputable def sp:Sp U El:=fun args k=>match args with
  | [.lst .int l,.int .i64 x]=>chk (nle (List.length l) 90000) (k (.bool (List.any l (cS x))) [])
  | _=>none
theorem spOk:SpOk Tryz.prog E 82 sp where
  det:=fun vs=>by
    unfold sp
    split
    · exact bq _ _ _
    · exact ⟨none,fun _=>rfl⟩
  ok:=fun vs k r h=>by
    unfold sp at h
    split at h
    · obtain ⟨h1, h2⟩ := ab h
      exact ⟨_,_,spec _ _ h1,h2⟩
    · cases h
end hasI
noncomputable def rc (v:AV U El) (dn:List Bool):R:=some (v,[(1000000000,.box 1000000000 [.ful 1000000001]),(1000000001,.rows .bool dn)])
namespace ord1
noncomputable def bd:Code:=(Tryz.f93.body).getD .skip
noncomputable def X:Ctx U El:=⟨E,tds,zeros,eqs,aK [],100000,9,aC [],fun _=>none⟩
noncomputable def nmR:Norm U:=⟨[],[3],[1000000000,1000000001],[],[(1000000000,0,.bool,1000000001)],[],[]⟩
noncomputable def RR:ai U El:=fun st=>aN nmR st (fJ [3])
noncomputable def fr0 (a:Int) (dn:List Bool):St U El:=⟨[(0,(.int .i64 a)),(1,(.ptr 1000000000 0))],[(1000000000,(.box 1000000000 [(.ful 1000000001)])),(1000000001,(.rows .bool dn))]⟩
noncomputable def sh0 (a:Int) (dn:List Bool):R :=
  chk (inb a (List.length dn)) (chk (nlt (Int.toNat a) (List.length dn)) (some ((.bool (!(List.getD dn (Int.toNat a) d_bool))),[(1000000000,(.box 1000000000 [(.ful 1000000001)])),(1000000001,(.rows .bool dn))])))
theorem P0 (a dn):al X (cdp [] bd) .d (fr0 a dn) RR (fun _ _=>none) RR=sh0 a dn:=by kernel_rfl
noncomputable def f0 (a:Int) (dn:List Bool):R:=sh0 a dn
theorem T0 (a dn):al X bd .d (fr0 a dn) RR (fun _ _=>none) RR=f0 a dn:=by
  refine (P0 a dn).trans ?_
  show _=sh0 a dn
  rfl
theorem run (a dn):q7 X bd .d nmR [3] [(1000000000,(.box 1000000000 [(.ful 1000000001)])),(1000000001,(.rows .bool dn))] [(.int .i64 a),(.ptr 1000000000 0)]=f0 a dn:=T0 a dn
theorem f0_eq (a:Int) (dn:List Bool) (h:inb a (List.length dn)=true):f0 a dn=rc (.bool (bE dn a)) dn:=by
  show sh0 a dn=_
  unfold sh0
  have h1:Int.toNat a < dn.length:=by
    simp only [inb,Bool.and_eq_true] at h
    have h1:=gQ h.1; have h2:=np h.2
    omega
  rw [h,ra h1]
  rfl
theorem ok:CtxOk Tryz.prog X:=aW tab spN dpN
theorem okM:MOk Tryz.prog X:=fun g sp h=>by cases h
theorem spec (a:Int) (dn:List Bool) (h:(inb a (List.length dn))=true):MCall Tryz.prog E 93 [(.int .i64 a),(.ptr 1000000000 0)] [(1000000000,(.box 1000000000 [(.ful 1000000001)])),(1000000001,(.rows .bool dn))] (.bool (bE dn a)) [(1000000000,(.box 1000000000 [(.ful 1000000001)])),(1000000001,(.rows .bool dn))] :=
  fK ok okM Tryz.func93 (by kernel_rfl) (by kernel_rfl) (by kernel_rfl) (by show 2≤9; decide) ((run a dn).trans (f0_eq a dn h))
noncomputable def sp:MSp U El:=fun args hs k=>match args,hs with
  | [.int .i64 a,.ptr q0 0],[(q1,.box q2 [.ful q3]),(q4,.rows .bool dn)]=>chk (Nat.beq q0 1000000000&&(Nat.beq q1 1000000000&&(Nat.beq q2 1000000000&&(Nat.beq q3 1000000001&&(Nat.beq q4 1000000001&&true))))) (chk (inb a (List.length dn)) (k (.bool (bE dn a)) [(1000000000,(.box 1000000000 [(.ful 1000000001)])),(1000000001,(.rows .bool dn))]))
  | _,_=>none
theorem spOk:lk Tryz.prog E 93 sp:=⟨Tryz.call93,fun args hs k r h=>by
  unfold sp at h
  split at h
  · obtain ⟨hq, hA⟩ := ab h
    clear h
    simp only [Bool.and_eq_true] at hq
    obtain ⟨e0,e1,e2,e3,e4,_⟩:=hq
    cases Nat.eq_of_beq_eq_true e0
    cases Nat.eq_of_beq_eq_true e1
    cases Nat.eq_of_beq_eq_true e2
    cases Nat.eq_of_beq_eq_true e3
    cases Nat.eq_of_beq_eq_true e4
    obtain ⟨h1,hB⟩:=ab hA
    exact ⟨_,_,spec _ _ h1,hB⟩
  · cases h⟩
theorem spDet:∀ args hs,∃ oo:Option (AV U El×am U El),∀ k,sp args hs k=oo.bind fun p=>k p.1 p.2:=fun args hs=>by
  unfold sp
  split
  · exact dR (dR ⟨some (_,_),fun _=>rfl⟩)
  · exact ⟨none,fun _=>rfl⟩
end ord1
namespace ordX
noncomputable def bd:Code:=(Tryz.f125.body).getD .skip
noncomputable def X:Ctx U El:=⟨E,tds,zeros,eqs,aK [],100000,19,aC [],cV [(93,(nf ord1.sp))]⟩
noncomputable def nmR:Norm U:=⟨[],[4],[1000000000,1000000001],[],[(1000000000,0,.bool,1000000001)],[],[]⟩
noncomputable def RR:ai U El:=fun st=>aN nmR st (fJ [4])
noncomputable def nm1:Norm U:=⟨[],[],[1000000000,1000000001],[],[(1000000000,0,.bool,1000000001)],[],[]⟩
noncomputable def nm2:Norm U:=⟨[],[0,1,7,8],[1000000000,1000000001],[],[(1000000000,0,.bool,1000000001)],[],[]⟩
abbrev Y1:=(List Bool)→R
abbrev Y2:=(List Int)→Int→Int→(List Bool)→R
noncomputable def fr0 (l:List Int) (dn:List Bool):St U El:=⟨[(0,(.lst .int l)),(1,(.fn 93 [] [(.ptr 1000000000 0)]))],[(1000000000,(.box 1000000000 [(.ful 1000000001)])),(1000000001,(.rows .bool dn))]⟩
noncomputable def fr1 (bA:List Bool):St U El:=⟨[],[(1000000000,(.box 1000000000 [(.ful 1000000001)])),(1000000001,(.rows .bool bA))]⟩
noncomputable def fr2 (s0:List Int) (x7:Int) (x8:Int) (bA:List Bool):St U El:=⟨[(0,(.lst .int s0)),(1,(.fn 93 [] [(.ptr 1000000000 0)])),(7,(.int .i64 x7)),(8,(.int .i64 x8))],[(1000000000,(.box 1000000000 [(.ful 1000000001)])),(1000000001,(.rows .bool bA))]⟩
noncomputable def sh0 (l:List Int) (dn:List Bool) (k2:Y2):R :=
  k2 l (Int.ofNat (List.length l)) (0:Int) dn
noncomputable def sh1 (bA:List Bool):R :=
  some ((.int .i64 (-1:Int)),[(1000000000,(.box 1000000000 [(.ful 1000000001)])),(1000000001,(.rows .bool bA))])
noncomputable def sh2 (s0:List Int) (x7:Int) (x8:Int) (bA:List Bool) (k1:Y1) (k2:Y2):R :=
  aj (ilt x8 x7) (chk (inb x8 (List.length s0)) (chk (inb (List.getD s0 (Int.toNat x8) dS) (List.length bA)) (aj (bE bA (List.getD s0 (Int.toNat x8) dS)) (some ((.int .i64 x8),[(1000000000,(.box 1000000000 [(.ful 1000000001)])),(1000000001,(.rows .bool bA))])) (k2 s0 x7 (IntKind.wrap .i64 (x8+(1:Int))) bA)))) (k1 bA)
noncomputable def it2 (Kb1:ai U El) (n:Nat):ai U El:=cP nm2 (fun st' K'=>al X (cdp [1,0,1,0,0] bd) .d st' K' (aS 0 (aF nm1 Kb1) (fun _ _=>none)) RR) n
noncomputable def ct1:ai U El:=fun st=>al X (cdp [1,1] bd) .d st RR (fun _ _=>none) RR
theorem P0 (l dn):al X (cdp [] bd) (.seq none .d (.seq (some nm1) (.seq none .d (.block (.loop nm2 .d))) .d)) (fr0 l dn) RR (fun _ _=>none) RR=sh0 l dn (fun y0 y1 y2 y3=>(hid (it2 (hid ct1) 100000)) (fr2 y0 y1 y2 y3)):=by kernel_rfl
theorem P1 (bA):ct1 (fr1 bA)=sh1 bA:=by kernel_rfl
theorem P2 (s0 x7 x8 bA) (Kb1 Kb2:ai U El):al X (cdp [1,0,1,0,0] bd) .d (fr2 s0 x7 x8 bA) (aF nm2 Kb2) (aS 0 (aF nm1 Kb1) (fun _ _=>none)) RR=sh2 s0 x7 x8 bA (fun y0=>Kb1 (fr1 y0)) (fun y0 y1 y2 y3=>Kb2 (fr2 y0 y1 y2 y3)):=by kernel_rfl
noncomputable def f1 (bA:List Bool):R:=sh1 bA
noncomputable def f2:Nat→Y2
  | 0=>fun _ _ _ _=>none
  | n+1=>fun s0 x7 x8 bA=>sh2 s0 x7 x8 bA f1 (f2 n)
noncomputable def f0 (l:List Int) (dn:List Bool):R:=sh0 l dn (f2 100000)
theorem T1 (bA):(hid ct1) (fr1 bA)=f1 bA:=by
  refine (congrFun (au _) _).trans <| (P1 bA).trans ?_
  show _=sh1 bA
  rfl
theorem T2:∀ (n:Nat),∀ s0 x7 x8 bA,it2 (hid ct1) n (fr2 s0 x7 x8 bA)=f2 n s0 x7 x8 bA:=by
  intro n
  induction n with
  | zero=>intros; rfl
  | succ n ih =>
    intro s0 x7 x8 bA
    refine (P2 s0 x7 x8 bA (hid ct1) (it2 (hid ct1) n)).trans ?_
    show _=sh2 s0 x7 x8 bA f1 (f2 n)
    simp only [T1,ih]
theorem H2 (s0 x7 x8 bA):hid (it2 (hid ct1) 100000) (fr2 s0 x7 x8 bA)=f2 100000 s0 x7 x8 bA:=(congrFun (au _) _).trans (T2 100000 s0 x7 x8 bA)
theorem T0 (l dn):al X bd (.seq none .d (.seq (some nm1) (.seq none .d (.block (.loop nm2 .d))) .d)) (fr0 l dn) RR (fun _ _=>none) RR=f0 l dn:=by
  refine (P0 l dn).trans ?_
  show _=sh0 l dn (f2 100000)
  simp only [H2]
theorem run (l dn):q7 X bd (.seq none .d (.seq (some nm1) (.seq none .d (.block (.loop nm2 .d))) .d)) nmR [4] [(1000000000,(.box 1000000000 [(.ful 1000000001)])),(1000000001,(.rows .bool dn))] [(.lst .int l),(.fn 93 [] [(.ptr 1000000000 0)])]=f0 l dn:=T0 l dn
theorem loop (l:List Int) (dn:List Bool) (hl:l.length≤90000) (hd:∀ a∈l,inb a dn.length=true):∀ (n i:Nat),l.length < n+i→i≤l.length→f2 n l (Int.ofNat l.length) (i:Int) dn=rc (.int .i64 (aZ (bE dn) i (l.drop i))) dn:=by
  intro n
  induction n with
  | zero=>intro i h1 h2; omega
  | succ n ih =>
    intro i h1 h2
    show sh2 l (Int.ofNat l.length) (i:Int) dn f1 (f2 n)=_
    unfold sh2
    by_cases hi:i < l.length
    · rw [ci (by simp; omega), bD hi, ar, az hi, hd _ (List.getElem_mem hi), cl i (by omega), ih (i + 1) (by omega) hi, bR hi]
      simp only [aZ]
      cases bE dn l[i]<;>rfl
    · have : i = l.length := by omega
      subst this
      rw [bZ (by simp),List.drop_length]
      rfl
theorem f0_eq (l:List Int) (dn:List Bool) (h:(nle (List.length l) 90000&&List.all l (fun a=>inb a (List.length dn)))=true):f0 l dn=rc (.int .i64 (aZ (bE dn) 0 l)) dn:=by
  simp only [Bool.and_eq_true] at h
  exact loop l dn (du h.1) (List.all_eq_true.1 h.2) 100000 0 (by have:=du h.1; omega) (by omega)
theorem ok:CtxOk Tryz.prog X:=aW tab spN dpN
theorem okM:MOk Tryz.prog X:=cB _ (mpC (iG ok ord1.spOk) mpN)
theorem spec (l:List Int) (dn:List Bool) (h:((nle (List.length l) 90000&&List.all l (fun a=>inb a (List.length dn))))=true):MCall Tryz.prog E 125 [(.lst .int l),(.fn 93 [] [(.ptr 1000000000 0)])] [(1000000000,(.box 1000000000 [(.ful 1000000001)])),(1000000001,(.rows .bool dn))] (.int .i64 (aZ (bE dn) 0 l)) [(1000000000,(.box 1000000000 [(.ful 1000000001)])),(1000000001,(.rows .bool dn))] :=
  fK ok okM Tryz.func125 (by kernel_rfl) (by kernel_rfl) (by kernel_rfl) (by show 2≤19; decide) ((run l dn).trans (f0_eq l dn h))
noncomputable def sp:MSp U El:=fun args hs k=>match args,hs with
  | [.lst .int l,.fn 93 [] [.ptr q0 0]],[(q1,.box q2 [.ful q3]),(q4,.rows .bool dn)]=>chk (Nat.beq q0 1000000000&&(Nat.beq q1 1000000000&&(Nat.beq q2 1000000000&&(Nat.beq q3 1000000001&&(Nat.beq q4 1000000001&&true))))) (chk ((nle (List.length l) 90000&&List.all l (fun a=>inb a (List.length dn)))) (k (.int .i64 (aZ (bE dn) 0 l)) [(1000000000,(.box 1000000000 [(.ful 1000000001)])),(1000000001,(.rows .bool dn))]))
  | _,_=>none
theorem spOk:lk Tryz.prog E 125 sp:=⟨Tryz.call125,fun args hs k r h=>by
  unfold sp at h
  split at h
  · obtain ⟨hq, hA⟩ := ab h
    clear h
    simp only [Bool.and_eq_true] at hq
    obtain ⟨e0,e1,e2,e3,e4,_⟩:=hq
    cases Nat.eq_of_beq_eq_true e0
    cases Nat.eq_of_beq_eq_true e1
    cases Nat.eq_of_beq_eq_true e2
    cases Nat.eq_of_beq_eq_true e3
    cases Nat.eq_of_beq_eq_true e4
    obtain ⟨h1,hB⟩:=ab hA
    exact ⟨_,_,spec _ _ h1,hB⟩
  · cases h⟩
theorem spDet:∀ args hs,∃ oo:Option (AV U El×am U El),∀ k,sp args hs k=oo.bind fun p=>k p.1 p.2:=fun args hs=>by
  unfold sp
  split
  · exact dR (dR ⟨some (_,_),fun _=>rfl⟩)
  · exact ⟨none,fun _=>rfl⟩
end ordX
namespace ordC
noncomputable def bd:Code:=(Tryz.f87.body).getD .skip
noncomputable def X:Ctx U El:=⟨E,tds,zeros,eqs,aK [],100000,9,aC [],cV [(125,(nf ordX.sp))]⟩
noncomputable def nmR:Norm U:=⟨[],[4],[1000000000,1000000001],[],[(1000000000,0,.bool,1000000001)],[],[]⟩
noncomputable def RR:ai U El:=fun st=>aN nmR st (fJ [4])
noncomputable def fr0 (l:List Int) (dn:List Bool):St U El:=⟨[(0,(.lst .int l)),(1,(.fn 93 [] [(.ptr 1000000000 0)]))],[(1000000000,(.box 1000000000 [(.ful 1000000001)])),(1000000001,(.rows .bool dn))]⟩
noncomputable def sh0 (l:List Int) (dn:List Bool):R :=
  chk ((nle (List.length l) 90000&&List.all l (fun a=>inb a (List.length dn)))) (some ((.bool (ile (0:Int) (aZ (bE dn) 0 l))),[(1000000000,(.box 1000000000 [(.ful 1000000001)])),(1000000001,(.rows .bool dn))]))
theorem P0 (l dn):al X (cdp [] bd) .d (fr0 l dn) RR (fun _ _=>none) RR=sh0 l dn:=by kernel_rfl
noncomputable def f0 (l:List Int) (dn:List Bool):R:=sh0 l dn
theorem T0 (l dn):al X bd .d (fr0 l dn) RR (fun _ _=>none) RR=f0 l dn:=by
  refine (P0 l dn).trans ?_
  show _=sh0 l dn
  rfl
theorem run (l dn):q7 X bd .d nmR [4] [(1000000000,(.box 1000000000 [(.ful 1000000001)])),(1000000001,(.rows .bool dn))] [(.lst .int l),(.fn 93 [] [(.ptr 1000000000 0)])]=f0 l dn:=T0 l dn
theorem f0_eq (l:List Int) (dn:List Bool) (h:(nle (List.length l) 90000&&List.all l (fun a=>inb a (List.length dn)))=true):f0 l dn=rc (.bool (List.any l (bE dn))) dn:=by
  show sh0 l dn=_
  unfold sh0
  rw [h,← dV (bE dn) l 0]
  rfl
theorem ok:CtxOk Tryz.prog X:=aW tab spN dpN
theorem okM:MOk Tryz.prog X:=cB _ (mpC (iG ok ordX.spOk) mpN)
theorem spec (l:List Int) (dn:List Bool) (h:((nle (List.length l) 90000&&List.all l (fun a=>inb a (List.length dn))))=true):MCall Tryz.prog E 87 [(.lst .int l),(.fn 93 [] [(.ptr 1000000000 0)])] [(1000000000,(.box 1000000000 [(.ful 1000000001)])),(1000000001,(.rows .bool dn))] (.bool (List.any l (bE dn))) [(1000000000,(.box 1000000000 [(.ful 1000000001)])),(1000000001,(.rows .bool dn))] :=
  fK ok okM Tryz.func87 (by kernel_rfl) (by kernel_rfl) (by kernel_rfl) (by show 2≤9; decide) ((run l dn).trans (f0_eq l dn h))
noncomputable def sp:MSp U El:=fun args hs k=>match args,hs with
  | [.lst .int l,.fn 93 [] [.ptr q0 0]],[(q1,.box q2 [.ful q3]),(q4,.rows .bool dn)]=>chk (Nat.beq q0 1000000000&&(Nat.beq q1 1000000000&&(Nat.beq q2 1000000000&&(Nat.beq q3 1000000001&&(Nat.beq q4 1000000001&&true))))) (chk ((nle (List.length l) 90000&&List.all l (fun a=>inb a (List.length dn)))) (k (.bool (List.any l (bE dn))) [(1000000000,(.box 1000000000 [(.ful 1000000001)])),(1000000001,(.rows .bool dn))]))
  | _,_=>none
theorem spOk:lk Tryz.prog E 87 sp:=⟨Tryz.call87,fun args hs k r h=>by
  unfold sp at h
  split at h
  · obtain ⟨hq, hA⟩ := ab h
    clear h
    simp only [Bool.and_eq_true] at hq
    obtain ⟨e0,e1,e2,e3,e4,_⟩:=hq
    cases Nat.eq_of_beq_eq_true e0
    cases Nat.eq_of_beq_eq_true e1
    cases Nat.eq_of_beq_eq_true e2
    cases Nat.eq_of_beq_eq_true e3
    cases Nat.eq_of_beq_eq_true e4
    obtain ⟨h1,hB⟩:=ab hA
    exact ⟨_,_,spec _ _ h1,hB⟩
  · cases h⟩
theorem spDet:∀ args hs,∃ oo:Option (AV U El×am U El),∀ k,sp args hs k=oo.bind fun p=>k p.1 p.2:=fun args hs=>by
  unfold sp
  split
  · exact dR (dR ⟨some (_,_),fun _=>rfl⟩)
  · exact ⟨none,fun _=>rfl⟩
end ordC
end Go.Proofs.YthdklallcljhlaaGreatDoor

namespace Go.Proofs.YthdklallcljhlaaGreatDoor
set_option linter.unusedSectionVars false
set_option linter.unusedSimpArgs false
set_option linter.unusedVariables false
set_option maxRecDepth 100000
theorem od {l:List Work} (h:okO l=true):l.length≤90000∧∀ w∈l,w.wa.length≤90000∧∀ a∈w.wa,inb a l.length=true:=by
  unfold okO at h
  simp only [Bool.and_eq_true] at h
  refine ⟨du h.1,fun w hw => ?_⟩
  have:=List.all_eq_true.1 h.2 w hw
  simp only [Bool.and_eq_true] at this
  exact ⟨du this.1,List.all_eq_true.1 this.2⟩
end Go.Proofs.YthdklallcljhlaaGreatDoor

namespace Go.Proofs.YthdklallcljhlaaGreatDoor
set_option linter.unusedSectionVars false
set_option linter.unusedSimpArgs false
set_option linter.unusedVariables false
set_option maxRecDepth 100000
def p5 (l:List Work):Prop:=∃ rk:Nat→Nat,∀ (i:Nat) (h:i < l.length),∀ a∈l[i].wa,rk (Int.toNat a) < rk i
noncomputable def eS (l:List Work):Bool:=@decide (p5 l) (Classical.propDecidable _)
theorem rT {l:List Work} (h:p5 l):eS l=true:=@decide_eq_true _ (Classical.propDecidable _) h
theorem rU {l:List Work} (h:¬ p5 l):eS l=false:=@decide_eq_false _ (Classical.propDecidable _) h
def cX:List Bool→Nat
  | []=>0
  | b :: l=>(bif b then 0 else 1)+cX l
theorem rd:∀ n,cX (List.replicate n d_bool)=n:=by
  intro n
  induction n with
  | zero=>rfl
  | succ n ih=>show 1+cX (List.replicate n d_bool)=n+1; rw [ih]; omega
theorem re:∀ (dn:List Bool) (i:Nat),i < dn.length→List.getD dn i d_bool=false→cX (dn.set i true)+1=cX dn:=by
  intro dn
  induction dn with
  | nil=>intro i h; simp at h
  | cons b dn ih =>
    intro i h hb
    cases i with
    | zero =>
      have:b=false:=hb
      subst this
      show (0+cX dn)+1=1+cX dn
      omega
    | succ i =>
      have:=ih i (by simpa using h) hb
      show ((bif b then 0 else 1)+cX (dn.set i true))+1=(bif b then 0 else 1)+cX dn
      omega
theorem p6:∀ (dn:List Bool),cX dn=0→∀ i,i < dn.length→List.getD dn i d_bool=true:=by
  intro dn
  induction dn with
  | nil=>intro _ i h; simp at h
  | cons b dn ih =>
    intro h i hi
    have h':(bif b then 0 else 1)+cX dn=0:=h
    cases b with
    | false=>simp at h'
    | true =>
      cases i with
      | zero=>rfl
      | succ i=>exact ih (by simpa using h') i (by simpa using hi)
theorem rf:∀ (dn:List Bool),0 < cX dn→∃ i,i < dn.length∧List.getD dn i d_bool=false:=by
  intro dn
  induction dn with
  | nil=>intro h; simp [cX] at h
  | cons b dn ih =>
    intro h
    cases b with
    | false=>exact ⟨0,by simp,rfl⟩
    | true =>
      have h':0+cX dn > 0:=h
      obtain ⟨i,h1,h2⟩:=ih (by omega)
      exact ⟨i+1,by simp; omega,h2⟩
theorem jt (dn:List Bool) (i j:Nat) (hi:i < dn.length):List.getD (dn.set i true) j d_bool=bif Nat.beq i j then true else List.getD dn j d_bool:=by
  rw [List.getD_eq_getElem?_getD,List.getElem?_set]
  by_cases e:i=j
  · subst e
    rw [if_pos rfl,if_pos hi,Nat.beq_refl]
    rfl
  · rw [if_neg e,af e,cond_false,List.getD_eq_getElem?_getD]
def nq (l:List Work) (dn:List Bool):Prop:=dn.length=l.length∧∃ (rk:Nat→Nat) (T:Nat),∀ (i:Nat) (h:i < l.length),List.getD dn i d_bool=true→rk i < T∧∀ a∈l[i].wa,List.getD dn (Int.toNat a) d_bool=true∧rk (Int.toNat a) < rk i
theorem p7 (l:List Work):nq l (List.replicate l.length d_bool):=by
  refine ⟨by simp,fun _=>0,0,fun i h hd => ?_⟩
  rw [az (by simpa using h),List.getElem_replicate] at hd
  cases hd
theorem p8 {l : List Work} {dn : List Bool} (hg : nq l dn) {i : Nat} (hi : i < l.length) (hu : List.getD dn i d_bool = false) (hr : rdy dn l[i] = true) : nq l (dn.set i true) := by
  obtain ⟨hl,rk,T,h⟩:=hg
  have hid:i < dn.length:=by omega
  refine ⟨by simpa using hl,fun j=>if j=i then T else rk j,T+1,fun j hj hd => ?_⟩
  rw [jt _ _ _ hid] at hd
  by_cases e:i=j
  · subst e
    dsimp only
    rw [if_pos rfl]
    refine ⟨by omega,fun a ha => ?_⟩
    have hda:List.getD dn (Int.toNat a) d_bool=true:=List.all_eq_true.1 hr a ha
    have hne:Int.toNat a≠i:=fun e=>by rw [e,hu] at hda; cases hda
    rw [jt _ _ _ hid,af (Ne.symm hne),cond_false,if_neg hne]
    refine ⟨hda,?_⟩
    by_cases hal:Int.toNat a < l.length
    · exact (h _ hal hda).1
    · have : List.getD dn (Int.toNat a) d_bool = false := by
        rw [List.getD_eq_getElem?_getD,List.getElem?_eq_none (by omega)]
        rfl
      rw [this] at hda
      cases hda
  · rw [af e, cond_false] at hd
    obtain ⟨h1,h2⟩:=h j hj hd
    dsimp only
    rw [if_neg (Ne.symm e)]
    refine ⟨by omega,fun a ha => ?_⟩
    obtain ⟨h3,h4⟩:=h2 a ha
    have hne:Int.toNat a≠i:=fun e=>by rw [e,hu] at h3; cases h3
    rw [jt _ _ _ hid,af (Ne.symm hne),cond_false,if_neg hne]
    exact ⟨h3,h4⟩
theorem p9 {l:List Work} {dn:List Bool} (hg:nq l dn) (h0:cX dn=0):p5 l:=by
  obtain ⟨hl,rk,T,h⟩:=hg
  exact ⟨rk,fun i hi a ha=>((h i hi (p6 dn h0 i (by omega))).2 a ha).2⟩
theorem sy {l : List Work} {dn : List Bool} (ha : p5 l) (hl : dn.length = l.length) (hin : ∀ w ∈ l, ∀ a ∈ w.wa, inb a l.length = true) (hp : 0 < cX dn) : ∃ i, ∃ h : i < l.length, List.getD dn i d_bool = false ∧ rdy dn l[i] = true := by
  obtain ⟨rk,hrk⟩:=ha
  have key:∀ (m i:Nat),rk i < m→∀ h:i < l.length,List.getD dn i d_bool=false→∃ i,∃ h:i < l.length,List.getD dn i d_bool=false∧rdy dn l[i]=true:=by
    intro m
    induction m with
    | zero=>intro i h; omega
    | succ m ih =>
      intro i hm h hd
      cases hr:rdy dn l[i] with
      | true=>exact ⟨i,h,hd,hr⟩
      | false =>
        obtain ⟨a,ha1,ha2⟩:=List.all_eq_false.1 hr
        have hb:=hin _ (List.getElem_mem h) a ha1
        simp only [inb,Bool.and_eq_true] at hb
        have b1:=gQ hb.1; have b2:=np hb.2
        exact ih (Int.toNat a) (by have:=hrk i h a ha1; omega) (by omega) (by simpa using ha2)
  obtain ⟨i,h1,h2⟩:=rf dn hp
  exact key (rk i+1) i (by omega) (by omega) h2
namespace ordered
noncomputable def bd:Code:=(Tryz.f68.body).getD .skip
noncomputable def X:Ctx U El:=⟨E,tds,zeros,eqs,aK [],100000,44,aC [],cV [(87,(nf ordC.sp))]⟩
noncomputable def nmR:Norm U:=⟨[],[2],[],[],[],[],[]⟩
noncomputable def RR:ai U El:=fun st=>aN nmR st (aJ [2] [])
noncomputable def nm1:Norm U:=⟨[],[],[],[],[],[],[]⟩
noncomputable def nm2:Norm U:=⟨[],[0,3,4],[3,500000300],[],[(3,0,.bool,500000300)],[],[]⟩
noncomputable def nm3:Norm U:=⟨[],[0,3,4,5],[3,500000300],[],[(3,0,.bool,500000300)],[],[]⟩
noncomputable def nm4:Norm U:=⟨[],[0,3,4,5,16,17,18],[3,500000300],[],[(3,0,.bool,500000300)],[],[]⟩
noncomputable def nm5:Norm U:=⟨[],[0,3,4,5,16,17,18],[3,500000300],[],[(3,0,.bool,500000300)],[],[]⟩
abbrev Y1:=R
abbrev Y2:=(List Work)→Int→(List Bool)→R
abbrev Y3:=(List Work)→Int→Int→(List Bool)→R
abbrev Y4:=(List Work)→Int→Int→(List Work)→Int→Int→(List Bool)→R
abbrev Y5:=(List Work)→Int→Int→(List Work)→Int→Int→(List Bool)→R
noncomputable def fr0 (l:List Work):St U El:=⟨[(0,(.lst .work l))],[]⟩
noncomputable def fr1:St U El:=⟨[],[]⟩
noncomputable def fr2 (l0:List Work) (bA:Int) (cA:List Bool):St U El:=⟨[(0,(.lst .work l0)),(3,(.ptr 3 0)),(4,(.int .i64 bA))],[(3,(.box 0 [(.ful 500000300)])),(500000300,(.rows .bool cA))]⟩
noncomputable def fr3 (l0:List Work) (bA:Int) (aA:Int) (cA:List Bool):St U El:=⟨[(0,(.lst .work l0)),(3,(.ptr 3 0)),(4,(.int .i64 bA)),(5,(.int .i64 aA))],[(3,(.box 0 [(.ful 500000300)])),(500000300,(.rows .bool cA))]⟩
noncomputable def fr4 (l0:List Work) (bA:Int) (aA:Int) (eA:List Work) (fA:Int) (dA:Int) (cA:List Bool):St U El:=⟨[(0,(.lst .work l0)),(3,(.ptr 3 0)),(4,(.int .i64 bA)),(5,(.int .i64 aA)),(16,(.lst .work eA)),(17,(.int .i64 fA)),(18,(.int .i64 dA))],[(3,(.box 0 [(.ful 500000300)])),(500000300,(.rows .bool cA))]⟩
noncomputable def fr5 (l0:List Work) (bA:Int) (aA:Int) (eA:List Work) (fA:Int) (dA:Int) (cA:List Bool):St U El:=⟨[(0,(.lst .work l0)),(3,(.ptr 3 0)),(4,(.int .i64 bA)),(5,(.int .i64 aA)),(16,(.lst .work eA)),(17,(.int .i64 fA)),(18,(.int .i64 dA))],[(3,(.box 0 [(.ful 500000300)])),(500000300,(.rows .bool cA))]⟩
noncomputable def sh0 (l:List Work) (k2:Y2):R :=
  chk (ile 0 (Int.ofNat (List.length l))&&ile (Int.ofNat (List.length l)) (Int.ofNat (List.length l))&&ile ((Int.ofNat (List.length l)) * 1) 140737488355328) (k2 l (Int.ofNat (List.length l)) (List.replicate (Int.toNat (Int.ofNat (List.length l))) d_bool))
noncomputable def sh1:R :=
  some ((.bool true),[])
noncomputable def sh2 (l0:List Work) (bA:Int) (cA:List Bool) (k1:Y1) (k4:Y4):R :=
  aj (ilt (0:Int) bA) (k4 l0 bA bA l0 (Int.ofNat (List.length l0)) (0:Int) cA) (k1)
noncomputable def sh3 (l0:List Work) (bA:Int) (aA:Int) (cA:List Bool) (k2:Y2):R :=
  aj (bA == aA) (some ((.bool false),[])) (k2 l0 bA cA)
noncomputable def sh4 (l0:List Work) (bA:Int) (aA:Int) (eA:List Work) (fA:Int) (dA:Int) (cA:List Bool) (k3:Y3) (k5:Y5):R :=
  aj (ilt dA fA) (chk (inb dA (List.length eA)) (chk (inb dA (List.length cA)) (chk (nlt (Int.toNat dA) (List.length cA)) (aj (!(List.getD cA (Int.toNat dA) d_bool)) (chk ((nle (List.length ((List.getD eA (Int.toNat dA) ac).wa)) 90000&&List.all ((List.getD eA (Int.toNat dA) ac).wa) (fun a=>inb a (List.length cA)))) (aj (!(List.any ((List.getD eA (Int.toNat dA) ac).wa) (bE cA))) (chk (inb dA (List.length cA)) (chk (nlt (Int.toNat dA) (List.length cA)&&true) (k5 l0 (IntKind.wrap .i64 (bA - (1:Int))) aA eA fA dA (List.set cA (Int.toNat dA) true)))) (k5 l0 bA aA eA fA dA cA))) (k5 l0 bA aA eA fA dA cA))))) (k3 l0 bA aA cA)
noncomputable def sh5 (l0:List Work) (bA:Int) (aA:Int) (eA:List Work) (fA:Int) (dA:Int) (cA:List Bool) (k4:Y4):R :=
  k4 l0 bA aA eA fA (IntKind.wrap .i64 (dA+(1:Int))) cA
noncomputable def it2 (Kb1:ai U El) (n:Nat):ai U El:=cP nm2 (fun st' K'=>al X (cdp [1,1,0,1,0,0] bd) (.seq none .d (.block (.seq none .d (.seq (some nm3) (.seq none .d (.block (.loop nm4 (.seq none .d (.seq none .d (.seq (some nm5) .d .d)))))) .d)))) st' K' (aS 0 (aF nm1 Kb1) (fun _ _=>none)) RR) n
noncomputable def it4 (Kb1 Kb2 Kb3:ai U El) (n:Nat):ai U El:=cP nm4 (fun st' K'=>al X (cdp [1,1,0,1,0,0,1,0,1,0,1,0,0] bd) (.seq none .d (.seq none .d (.seq (some nm5) .d .d))) st' K' (aS 2 (aF nm3 Kb3) (aS 1 (aF nm2 Kb2) (aS 0 (aF nm1 Kb1) (fun _ _=>none)))) RR) n
noncomputable def ct1:ai U El:=fun st=>al X (cdp [1,1,1] bd) .d st RR (fun _ _=>none) RR
noncomputable def ct3 (Kb1 Kb2:ai U El):ai U El:=fun st=>al X (cdp [1,1,0,1,0,0,1,0,1,1] bd) .d st (aF nm2 Kb2) (aS 1 (aF nm2 Kb2) (aS 0 (aF nm1 Kb1) (fun _ _=>none))) RR
noncomputable def ct5 (Kb1 Kb2 Kb3 Kb4:ai U El):ai U El:=fun st=>al X (cdp [1,1,0,1,0,0,1,0,1,0,1,0,0,1,1,1] bd) .d st (aF nm4 Kb4) (aS 2 (aF nm3 Kb3) (aS 1 (aF nm2 Kb2) (aS 0 (aF nm1 Kb1) (fun _ _=>none)))) RR
theorem P0 (l):al X (cdp [] bd) (.seq none .d (.seq none .d (.seq (some nm1) (.seq none .d (.block (.loop nm2 (.seq none .d (.block (.seq none .d (.seq (some nm3) (.seq none .d (.block (.loop nm4 (.seq none .d (.seq none .d (.seq (some nm5) .d .d)))))) .d))))))) .d))) (fr0 l) RR (fun _ _=>none) RR=sh0 l (fun y0 y1 y2=>(hid (it2 (hid ct1) 100000)) (fr2 y0 y1 y2)):=by kernel_rfl
theorem P1:ct1 (fr1)=sh1:=by kernel_rfl
theorem P2 (l0 bA cA) (Kb1 Kb2:ai U El):al X (cdp [1,1,0,1,0,0] bd) (.seq none .d (.block (.seq none .d (.seq (some nm3) (.seq none .d (.block (.loop nm4 (.seq none .d (.seq none .d (.seq (some nm5) .d .d)))))) .d)))) (fr2 l0 bA cA) (aF nm2 Kb2) (aS 0 (aF nm1 Kb1) (fun _ _=>none)) RR=sh2 l0 bA cA (Kb1 (fr1)) (fun y0 y1 y2 y3 y4 y5 y6=>(hid (it4 Kb1 Kb2 (hid (ct3 Kb1 Kb2)) 100000)) (fr4 y0 y1 y2 y3 y4 y5 y6)):=by kernel_rfl
theorem P3 (l0 bA aA cA) (Kb1 Kb2:ai U El):ct3 Kb1 Kb2 (fr3 l0 bA aA cA)=sh3 l0 bA aA cA (fun y0 y1 y2=>Kb2 (fr2 y0 y1 y2)):=by kernel_rfl
theorem P4 (l0 bA aA eA fA dA cA) (Kb1 Kb2 Kb3 Kb4:ai U El):al X (cdp [1,1,0,1,0,0,1,0,1,0,1,0,0] bd) (.seq none .d (.seq none .d (.seq (some nm5) .d .d))) (fr4 l0 bA aA eA fA dA cA) (aF nm4 Kb4) (aS 2 (aF nm3 Kb3) (aS 1 (aF nm2 Kb2) (aS 0 (aF nm1 Kb1) (fun _ _=>none)))) RR=sh4 l0 bA aA eA fA dA cA (fun y0 y1 y2 y3=>Kb3 (fr3 y0 y1 y2 y3)) (fun y0 y1 y2 y3 y4 y5 y6=>(hid (ct5 Kb1 Kb2 Kb3 Kb4)) (fr5 y0 y1 y2 y3 y4 y5 y6)):=by kernel_rfl
theorem P5 (l0 bA aA eA fA dA cA) (Kb1 Kb2 Kb3 Kb4:ai U El):ct5 Kb1 Kb2 Kb3 Kb4 (fr5 l0 bA aA eA fA dA cA)=sh5 l0 bA aA eA fA dA cA (fun y0 y1 y2 y3 y4 y5 y6=>Kb4 (fr4 y0 y1 y2 y3 y4 y5 y6)):=by kernel_rfl
noncomputable def f1:R:=sh1
noncomputable def f3 (k2:Y2) (l0:List Work) (bA:Int) (aA:Int) (cA:List Bool):R:=sh3 l0 bA aA cA k2
noncomputable def f5 (k2:Y2) (k4:Y4) (l0:List Work) (bA:Int) (aA:Int) (eA:List Work) (fA:Int) (dA:Int) (cA:List Bool):R:=sh5 l0 bA aA eA fA dA cA k4
noncomputable def f4 (k2:Y2):Nat→Y4
  | 0=>fun _ _ _ _ _ _ _=>none
  | n+1=>fun l0 bA aA eA fA dA cA=>sh4 l0 bA aA eA fA dA cA (f3 k2) (f5 k2 (f4 k2 n))
noncomputable def f2:Nat→Y2
  | 0=>fun _ _ _=>none
  | n+1=>fun l0 bA cA=>sh2 l0 bA cA f1 (f4 (f2 n) 100000)
noncomputable def f0 (l:List Work):R:=sh0 l (f2 100000)
theorem T1:(hid ct1) (fr1)=f1:=by
  refine (congrFun (au _) _).trans <| (P1).trans ?_
  show _=sh1
  rfl
theorem T3 (KL2:ai U El) (k2:Y2) (h2:∀ l0 bA cA,KL2 (fr2 l0 bA cA)=k2 l0 bA cA) (l0 bA aA cA):(hid (ct3 (hid ct1) KL2)) (fr3 l0 bA aA cA)=f3 k2 l0 bA aA cA:=by
  refine (congrFun (au _) _).trans <| (P3 l0 bA aA cA (hid ct1) KL2).trans ?_
  show _=sh3 l0 bA aA cA k2
  simp only [h2]
theorem T5 (KL2:ai U El) (KL4:ai U El) (k2:Y2) (k4:Y4) (h2:∀ l0 bA cA,KL2 (fr2 l0 bA cA)=k2 l0 bA cA) (h4:∀ l0 bA aA eA fA dA cA,KL4 (fr4 l0 bA aA eA fA dA cA)=k4 l0 bA aA eA fA dA cA) (l0 bA aA eA fA dA cA):(hid (ct5 (hid ct1) KL2 (hid (ct3 (hid ct1) KL2)) KL4)) (fr5 l0 bA aA eA fA dA cA)=f5 k2 k4 l0 bA aA eA fA dA cA:=by
  refine (congrFun (au _) _).trans <| (P5 l0 bA aA eA fA dA cA (hid ct1) KL2 (hid (ct3 (hid ct1) KL2)) KL4).trans ?_
  show _=sh5 l0 bA aA eA fA dA cA k4
  simp only [h4]
theorem T4 (KL2:ai U El) (k2:Y2) (h2:∀ l0 bA cA,KL2 (fr2 l0 bA cA)=k2 l0 bA cA):∀ (n:Nat),∀ l0 bA aA eA fA dA cA,it4 (hid ct1) KL2 (hid (ct3 (hid ct1) KL2)) n (fr4 l0 bA aA eA fA dA cA)=f4 k2 n l0 bA aA eA fA dA cA:=by
  intro n
  induction n with
  | zero=>intros; rfl
  | succ n ih =>
    intro l0 bA aA eA fA dA cA
    refine (P4 l0 bA aA eA fA dA cA (hid ct1) KL2 (hid (ct3 (hid ct1) KL2)) (it4 (hid ct1) KL2 (hid (ct3 (hid ct1) KL2)) n)).trans ?_
    show _=sh4 l0 bA aA eA fA dA cA (f3 k2) (f5 k2 (f4 k2 n))
    simp only [T3 KL2 k2 h2,T5 KL2 (it4 (hid ct1) KL2 (hid (ct3 (hid ct1) KL2)) n) k2 (f4 k2 n) h2 ih]
theorem H4 (KL2:ai U El) (k2:Y2) (h2:∀ l0 bA cA,KL2 (fr2 l0 bA cA)=k2 l0 bA cA) (l0 bA aA eA fA dA cA):hid (it4 (hid ct1) KL2 (hid (ct3 (hid ct1) KL2)) 100000) (fr4 l0 bA aA eA fA dA cA)=f4 k2 100000 l0 bA aA eA fA dA cA:=(congrFun (au _) _).trans (T4 KL2 k2 h2 100000 l0 bA aA eA fA dA cA)
theorem T2:∀ (n:Nat),∀ l0 bA cA,it2 (hid ct1) n (fr2 l0 bA cA)=f2 n l0 bA cA:=by
  intro n
  induction n with
  | zero=>intros; rfl
  | succ n ih =>
    intro l0 bA cA
    refine (P2 l0 bA cA (hid ct1) (it2 (hid ct1) n)).trans ?_
    show _=sh2 l0 bA cA f1 (f4 (f2 n) 100000)
    simp only [T1,H4 (it2 (hid ct1) n) (f2 n) ih]
theorem H2 (l0 bA cA):hid (it2 (hid ct1) 100000) (fr2 l0 bA cA)=f2 100000 l0 bA cA:=(congrFun (au _) _).trans (T2 100000 l0 bA cA)
theorem T0 (l):al X bd (.seq none .d (.seq none .d (.seq (some nm1) (.seq none .d (.block (.loop nm2 (.seq none .d (.block (.seq none .d (.seq (some nm3) (.seq none .d (.block (.loop nm4 (.seq none .d (.seq none .d (.seq (some nm5) .d .d)))))) .d))))))) .d))) (fr0 l) RR (fun _ _=>none) RR=f0 l:=by
  refine (P0 l).trans ?_
  show _=sh0 l (f2 100000)
  simp only [H2]
theorem run (l):aY X bd (.seq none .d (.seq none .d (.seq (some nm1) (.seq none .d (.block (.loop nm2 (.seq none .d (.block (.seq none .d (.seq (some nm3) (.seq none .d (.block (.loop nm4 (.seq none .d (.seq none .d (.seq (some nm5) .d .d)))))) .d))))))) .d))) nmR [2] [] [(.lst .work l)]=f0 l:=T0 l
theorem sB (l : List Work) (hl : l.length ≤ 90000) (hw : ∀ w ∈ l, w.wa.length ≤ 90000 ∧ ∀ a ∈ w.wa, inb a l.length = true) (k2 : Y2) (before : Int) : ∀ (n i left : Nat) (dn : List Bool), l.length < n + i → i ≤ l.length → nq l dn → cX dn = left →
    ∃ (left':Nat) (dn':List Bool),f4 k2 n l (left:Int) before l (Int.ofNat l.length) (i:Int) dn=f3 k2 l (left':Int) before dn'∧nq l dn'∧cX dn'=left'∧left'≤left∧(left'=left→dn'=dn∧∀ (j:Nat) (h:j < l.length),i≤j→List.getD dn j d_bool=false→rdy dn l[j]=false):=by
  intro n
  induction n with
  | zero=>intro i left dn h1 h2; omega
  | succ n ih =>
    intro i left dn h1 h2 hg hc
    by_cases hi:i < l.length
    · have hid : i < dn.length := by rw [hg.1]; exact hi
      obtain ⟨w1,w2⟩:=hw _ (List.getElem_mem hi)
      have e5:∀ (lf:Nat) (d:List Bool),f5 k2 (f4 k2 n) l (lf:Int) before l (Int.ofNat l.length) (i:Int) d=f4 k2 n l (lf:Int) before l (Int.ofNat l.length) ((i+1:Nat):Int) d:=fun lf d=>by
        show f4 k2 n l (lf:Int) before l (Int.ofNat l.length) (IntKind.wrap .i64 ((i:Int)+1)) d=_
        rw [cl i (by omega)]
      have hall:List.all l[i].wa (fun a=>inb a dn.length)=true:=List.all_eq_true.2 fun a ha=>by rw [hg.1]; exact w2 a ha
      have hrd:(!(List.any l[i].wa (bE dn)))=rdy dn l[i]:=by
        unfold rdy
        rw [Bool.eq_iff_iff]
        simp [bE]
      have step:f4 k2 (n+1) l (left:Int) before l (Int.ofNat l.length) (i:Int) dn=bif !(List.getD dn i d_bool)&&rdy dn l[i] then f5 k2 (f4 k2 n) l (IntKind.wrap .i64 ((left:Int) - 1)) before l (Int.ofNat l.length) (i:Int) (dn.set i true) else f5 k2 (f4 k2 n) l (left:Int) before l (Int.ofNat l.length) (i:Int) dn:=by
        show sh4 l (left:Int) before l (Int.ofNat l.length) (i:Int) dn (f3 k2) (f5 k2 (f4 k2 n))=_
        unfold sh4
        rw [ci (by simp; omega),bD hi,bD hid,ar,ra hid,az hi,hrd,b7 w1,hall]
        cases List.getD dn i d_bool<;>cases rdy dn l[i]<;>rfl
      rw [step]
      cases hb:(!(List.getD dn i d_bool)&&rdy dn l[i]) with
      | true =>
        simp only [Bool.and_eq_true,Bool.not_eq_true'] at hb
        have hcs:=re dn i hid hb.1
        obtain ⟨lf,hlf⟩:∃ lf,left=lf+1:=⟨cX (dn.set i true),by omega⟩
        have hwr:IntKind.wrap .i64 ((left:Int) - 1)=(lf:Int):=by
          have hcl:cX dn≤dn.length:=by
            have:∀ d:List Bool,cX d≤d.length:=by
              intro d
              induction d with
              | nil=>exact Nat.le_refl _
              | cons b d ih=>show (bif b then 0 else 1)+cX d≤d.length+1; cases b<;>simp<;>omega
            exact this dn
          have hdl:=hg.1
          rw [dD (by omega) (by omega)]
          omega
        rw [cond_true,hwr,e5]
        obtain ⟨l',d',q1,q2,q3,q4,q5⟩:=ih (i+1) lf (dn.set i true) (by omega) hi (p8 hg hi hb.1 hb.2) (by omega)
        exact ⟨l',d',q1,q2,q3,by omega,fun e=>by omega⟩
      | false =>
        rw [cond_false,e5]
        obtain ⟨l',d',q1,q2,q3,q4,q5⟩:=ih (i+1) left dn (by omega) hi hg hc
        refine ⟨l',d',q1,q2,q3,q4,fun e => ?_⟩
        obtain ⟨r1,r2⟩:=q5 e
        refine ⟨r1,fun j hj hij hd => ?_⟩
        by_cases e2:j=i
        · subst e2
          rw [hd] at hb
          simpa using hb
        · exact r2 j hj (by omega) hd
    · have : i = l.length := by omega
      subst this
      refine ⟨left,dn,?_,hg,hc,Nat.le_refl _,fun _=>⟨rfl,fun j hj hij=>by omega⟩⟩
      show sh4 l (left:Int) before l (Int.ofNat l.length) (l.length:Int) dn (f3 k2) (f5 k2 (f4 k2 n))=_
      unfold sh4
      rw [bZ (by simp)]
      rfl
theorem sC (l : List Work) (hl : l.length ≤ 90000) (hw : ∀ w ∈ l, w.wa.length ≤ 90000 ∧ ∀ a ∈ w.wa, inb a l.length = true) : ∀ (n left : Nat) (dn : List Bool), left < n → nq l dn → cX dn = left → f2 n l (left : Int) dn = bz (eS l) := by
  intro n
  induction n with
  | zero=>intro left dn h; omega
  | succ n ih =>
    intro left dn h hg hc
    show sh2 l (left:Int) dn f1 (f4 (f2 n) 100000)=_
    unfold sh2
    by_cases h0:left=0
    · subst h0
      rw [bZ (by simp),rT (p9 hg hc)]
      rfl
    · rw [ci (show (0 : Int) < (left : Int) by omega), cK]
      obtain ⟨l',d',q1,q2,q3,q4,q5⟩:=sB l hl hw (f2 n) (left:Int) 100000 0 left dn (by omega) (by omega) hg hc
      refine Eq.trans q1 ?_
      show sh3 l (l':Int) (left:Int) d' (f2 n)=_
      unfold sh3
      by_cases e:l'=left
      · subst e
        obtain ⟨r1,r2⟩:=q5 rfl
        rw [beq_self_eq_true,cK,rU fun ha => ?_]
        · rfl
        · obtain ⟨i, hi, s1, s2⟩ := sy ha hg.1 (fun w hw' => (hw w hw').2) (by omega : 0 < cX dn)
          rw [r2 i hi (by omega) s1] at s2
          cases s2
      · rw [show ((l' : Int) == (left : Int)) = false from beq_eq_false_iff_ne.2 fun e2 => e (Int.ofNat.inj e2), dq]
        exact ih l' d' (by omega) q2 q3
theorem f0_eq (l:List Work) (h:okO l=true):f0 l=bz (eS l):=by
  obtain ⟨h1,h2⟩:=od h
  show sh0 l (f2 100000)=_
  unfold sh0
  rw [ez (show (0:Int)≤Int.ofNat l.length by simp),ez (Int.le_refl (Int.ofNat l.length)),ez (show Int.ofNat l.length * 1≤140737488355328 by simp; omega)]
  show f2 100000 l (l.length:Int) (List.replicate l.length d_bool)=_
  exact sC l h1 h2 100000 l.length _ (by omega) (p7 l) (rd _)
theorem ok:CtxOk Tryz.prog X:=aW tab spN dpN
theorem okM:MOk Tryz.prog X:=cB _ (mpC (iG ok ordC.spOk) mpN)
theorem spec (l:List Work) (h:(okO l)=true):aq Tryz.prog E 68 [(.lst .work l)] (.bool (eS l)) [] :=
  ap ok okM Tryz.call68 Tryz.func68 (by kernel_rfl) (by kernel_rfl) (by kernel_rfl) (by show 1≤44; decide) (by decide) (by rfl) ((run l).trans (f0_eq l h))
noncomputable def sp:Sp U El:=fun args k=>match args with
  | [.lst .work l]=>chk (okO l) (k (.bool (eS l)) [])
  | _=>none
theorem spOk:SpOk Tryz.prog E 68 sp where
  det:=fun vs=>by
    unfold sp
    split
    · exact bq _ _ _
    · exact ⟨none,fun _=>rfl⟩
  ok:=fun vs k r h=>by
    unfold sp at h
    split at h
    · obtain ⟨h1, h2⟩ := ab h
      exact ⟨_,_,spec _ h1,h2⟩
    · cases h
end ordered
end Go.Proofs.YthdklallcljhlaaGreatDoor

namespace Go.Proofs.YthdklallcljhlaaGreatDoor
set_option linter.unusedSectionVars false
set_option linter.unusedSimpArgs false
set_option linter.unusedVariables false
set_option maxRecDepth 100000
noncomputable def wk (n crews:Int) (dup:Bool) (w:Work):Bool:=bI w.wn&&(!dup&&((ile 1 w.wh&&ile w.wh 1000)&&(!(Int.ofNat w.wc.length == (0:Int))&&(fM crews w.wc&&((w.ws == []||bI w.ws)&&(fM n w.wa&&((ile 0 w.wd&&ile w.wd 100000)&&(ile 0 w.wp&&ile w.wp 1000000))))))))
noncomputable def cm (n crews:Int):List Work→List Work→Bool
  | _,[]=>true
  | seen,w :: l=>wk n crews (List.any seen (fun y=>y.wn == w.wn)) w&&cm n crews (seen++[w]) l
noncomputable def cC (l:List Work) (crews:Int):Bool:=(ile 1 crews&&ile crews 12)&&(!(ilt 100 (Int.ofNat l.length))&&(cm (Int.ofNat l.length) crews [] l&&eS l))
theorem qa {lim:Int} {l:List Int} (h:fM lim l=true):∀ a∈l,0≤a∧a < lim:=by
  intro a ha
  obtain ⟨j,hj⟩:=List.getElem?_of_mem ha
  have h1:=allI_iff.1 h j a hj
  simp only [pZ,Bool.not_eq_true',Bool.or_eq_false_iff] at h1
  have h2:=jX h1.1
  have h3:=h1.2.1
  rw [← rb,Bool.not_eq_false'] at h3
  exact ⟨by omega,np h3⟩
theorem rV {n crews:Int} {dup:Bool} {w:Work} (h:wk n crews dup w=true):fM n w.wa=true:=by
  simp only [wk,Bool.and_eq_true] at h
  exact h.2.2.2.2.2.2.1
theorem o0 {n crews:Int}:∀ {l seen:List Work},cm n crews seen l=true→∀ w∈l,fM n w.wa=true:=by
  intro l
  induction l with
  | nil=>intro seen _ w hw; cases hw
  | cons x l ih =>
    intro seen h w hw
    simp only [cm,Bool.and_eq_true] at h
    rcases List.mem_cons.1 hw with rfl | hw
    · exact rV h.1
    · exact ih h.2 w hw
theorem gh {l:List Work} (h:okV l=true):l.length≤200∧∀ w∈l,w.wa.length≤90000∧w.wc.length≤90000:=by
  simp only [okV,Bool.and_eq_true] at h
  refine ⟨du h.1,fun w hw => ?_⟩
  have:=List.all_eq_true.1 h.2 w hw
  simp only [Bool.and_eq_true] at this
  exact ⟨du this.1,du this.2⟩
theorem mi {l:List Work} {crews:Int} (hv:okV l=true) (h:cm (Int.ofNat l.length) crews [] l=true):okO l=true:=by
  obtain ⟨h1,h2⟩:=gh hv
  simp only [okO,Bool.and_eq_true]
  refine ⟨b7 (by omega),List.all_eq_true.2 fun w hw=>Bool.and_eq_true_iff.2 ⟨b7 (h2 w hw).1,List.all_eq_true.2 fun a ha => ?_⟩⟩
  obtain ⟨q1,q2⟩:=qa (o0 h w hw) a ha
  obtain ⟨b,rfl⟩:=Int.eq_ofNat_of_zero_le q1
  exact bD (by simp at q2; omega)
namespace valid
noncomputable def bd:Code:=(Tryz.f29.body).getD .skip
noncomputable def X:Ctx U El:=⟨E,tds,zeros,eqs,aK [(38,within.sp),(66,isname.sp),(67,ascending.sp),(68,ordered.sp)],100000,89,aC [],fun _=>none⟩
noncomputable def nmR:Norm U:=⟨[],[4],[],[],[],[],[]⟩
noncomputable def RR:ai U El:=fun st=>aN nmR st (aJ [4] [])
noncomputable def nm1:Norm U:=⟨[],[0,1],[],[],[],[],[]⟩
noncomputable def nm2:Norm U:=⟨[],[0],[],[],[],[],[]⟩
noncomputable def nm3:Norm U:=⟨[],[0,1,5,17,18,19],[16],[],[],[],[]⟩
noncomputable def nm4:Norm U:=⟨[],[0,1,5,17,18,19],[16],[],[],[],[]⟩
noncomputable def nm5:Norm U:=⟨[],[0,1,5,7,17,18,19],[7,16],[],[],[],[(7,2,.int),(7,4,.int)]⟩
abbrev Y1:=(List Work)→Int→R
abbrev Y2:=(List Work)→R
abbrev Y3:=(List Work)→Int→(List Work)→Int→Int→(List ((List UInt8)×Bool))→R
abbrev Y4:=(List Work)→Int→(List Work)→Int→Int→(List ((List UInt8)×Bool))→R
abbrev Y5:=(List Work)→Int→(List Work)→Int→Int→(List UInt8)→Int→(List Int)→(List UInt8)→(List Int)→Int→Int→(List ((List UInt8)×Bool))→R
noncomputable def fr0 (l:List Work) (crews:Int):St U El:=⟨[(0,(.lst .work l)),(1,(.int .i64 crews))],[]⟩
noncomputable def fr1 (l0:List Work) (aA:Int):St U El:=⟨[(0,(.lst .work l0)),(1,(.int .i64 aA))],[]⟩
noncomputable def fr2 (l0:List Work):St U El:=⟨[(0,(.lst .work l0))],[]⟩
noncomputable def fr3 (l0:List Work) (aA:Int) (cA:List Work) (mA:Int) (bA:Int) (lA:List ((List UInt8)×Bool)):St U El:=⟨[(0,(.lst .work l0)),(1,(.int .i64 aA)),(5,(.mp 16)),(17,(.lst .work cA)),(18,(.int .i64 mA)),(19,(.int .i64 bA))],[(16,(.map .str .bool lA))]⟩
noncomputable def fr4 (l0:List Work) (aA:Int) (cA:List Work) (mA:Int) (bA:Int) (lA:List ((List UInt8)×Bool)):St U El:=⟨[(0,(.lst .work l0)),(1,(.int .i64 aA)),(5,(.mp 16)),(17,(.lst .work cA)),(18,(.int .i64 mA)),(19,(.int .i64 bA))],[(16,(.map .str .bool lA))]⟩
noncomputable def fr5 (l0:List Work) (aA:Int) (cA:List Work) (mA:Int) (bA:Int) (nA:List UInt8) (oA:Int) (pA:List Int) (qA:List UInt8) (rA:List Int) (sA:Int) (tA:Int) (lA:List ((List UInt8)×Bool)):St U El:=⟨[(0,(.lst .work l0)),(1,(.int .i64 aA)),(5,(.mp 16)),(7,(.ptr 7 0)),(17,(.lst .work cA)),(18,(.int .i64 mA)),(19,(.int .i64 bA))],[(7,(.box 0 [(.str nA),(.int .i64 oA),(.lst .int pA),(.str qA),(.lst .int rA),(.int .i64 sA),(.int .i64 tA)])),(16,(.map .str .bool lA))]⟩
noncomputable def sh0 (l:List Work) (crews:Int) (k1:Y1):R :=
  aj (!((ile (1:Int) crews&&ile crews (12:Int)))) (some ((.bool false),[])) (aj (ilt (100:Int) (Int.ofNat (List.length l))) (some ((.bool false),[])) (k1 l crews))
noncomputable def sh1 (l0:List Work) (aA:Int) (k3:Y3):R :=
  k3 l0 aA l0 (Int.ofNat (List.length l0)) (0:Int) ([]:List ((List UInt8)×Bool))
noncomputable def sh2 (l0:List Work):R :=
  chk (okO l0) (some ((.bool (eS l0)),[]))
noncomputable def sh3 (l0:List Work) (aA:Int) (cA:List Work) (mA:Int) (bA:Int) (lA:List ((List UInt8)×Bool)) (k2:Y2) (k5:Y5):R :=
  aj (ilt bA mA) (chk (inb bA (List.length cA)) (aj (!(bI ((List.getD cA (Int.toNat bA) ac).wn))) (some ((.bool false),[])) (aj (bL dp lA ((List.getD cA (Int.toNat bA) ac).wn) d_bool) (some ((.bool false),[])) (aj (!((ile (1:Int) ((List.getD cA (Int.toNat bA) ac).wh)&&ile ((List.getD cA (Int.toNat bA) ac).wh) (1000:Int)))) (some ((.bool false),[])) (aj ((Int.ofNat (List.length ((List.getD cA (Int.toNat bA) ac).wc))) == (0:Int)) (some ((.bool false),[])) (chk (nle (List.length ((List.getD cA (Int.toNat bA) ac).wc)) 90000) (aj (!(fM aA ((List.getD cA (Int.toNat bA) ac).wc))) (some ((.bool false),[])) (aj (!(((List.getD cA (Int.toNat bA) ac).ws) == ([]:List UInt8))) (aj (!(bI ((List.getD cA (Int.toNat bA) ac).ws))) (some ((.bool false),[])) (chk (nle (List.length ((List.getD cA (Int.toNat bA) ac).wa)) 90000) (aj (!(fM (Int.ofNat (List.length l0)) ((List.getD cA (Int.toNat bA) ac).wa))) (some ((.bool false),[])) (aj (!((ile (0:Int) ((List.getD cA (Int.toNat bA) ac).wd)&&ile ((List.getD cA (Int.toNat bA) ac).wd) (100000:Int)))) (some ((.bool false),[])) (aj (!((ile (0:Int) ((List.getD cA (Int.toNat bA) ac).wp)&&ile ((List.getD cA (Int.toNat bA) ac).wp) (1000000:Int)))) (some ((.bool false),[])) (k5 l0 aA cA mA bA ((List.getD cA (Int.toNat bA) ac).wn) ((List.getD cA (Int.toNat bA) ac).wh) ((List.getD cA (Int.toNat bA) ac).wc) ((List.getD cA (Int.toNat bA) ac).ws) ((List.getD cA (Int.toNat bA) ac).wa) ((List.getD cA (Int.toNat bA) ac).wd) ((List.getD cA (Int.toNat bA) ac).wp) lA)))))) (chk (nle (List.length ((List.getD cA (Int.toNat bA) ac).wa)) 90000) (aj (!(fM (Int.ofNat (List.length l0)) ((List.getD cA (Int.toNat bA) ac).wa))) (some ((.bool false),[])) (aj (!((ile (0:Int) ((List.getD cA (Int.toNat bA) ac).wd)&&ile ((List.getD cA (Int.toNat bA) ac).wd) (100000:Int)))) (some ((.bool false),[])) (aj (!((ile (0:Int) ((List.getD cA (Int.toNat bA) ac).wp)&&ile ((List.getD cA (Int.toNat bA) ac).wp) (1000000:Int)))) (some ((.bool false),[])) (k5 l0 aA cA mA bA ((List.getD cA (Int.toNat bA) ac).wn) ((List.getD cA (Int.toNat bA) ac).wh) ((List.getD cA (Int.toNat bA) ac).wc) ((List.getD cA (Int.toNat bA) ac).ws) ((List.getD cA (Int.toNat bA) ac).wa) ((List.getD cA (Int.toNat bA) ac).wd) ((List.getD cA (Int.toNat bA) ac).wp) lA))))))))))))) (k2 l0)
noncomputable def sh4 (l0:List Work) (aA:Int) (cA:List Work) (mA:Int) (bA:Int) (lA:List ((List UInt8)×Bool)) (k3:Y3):R :=
  k3 l0 aA cA mA (IntKind.wrap .i64 (bA+(1:Int))) lA
noncomputable def sh5 (l0:List Work) (aA:Int) (cA:List Work) (mA:Int) (bA:Int) (nA:List UInt8) (oA:Int) (pA:List Int) (qA:List UInt8) (rA:List Int) (sA:Int) (tA:Int) (lA:List ((List UInt8)×Bool)) (k4:Y4):R :=
  k4 l0 aA cA mA bA (ic dp lA nA true)
noncomputable def it3 (Kb2:ai U El) (n:Nat):ai U El:=cP nm3 (fun st' K'=>al X (cdp [1,1,1,0,1,0,0] bd) (.seq none .d (.seq none .d (.seq (some nm4) (.block (.seq none .d (.seq (some nm5) .d .d))) .d))) st' K' (aS 0 (aF nm2 Kb2) (fun _ _=>none)) RR) n
noncomputable def ct1:ai U El:=fun st=>al X (cdp [1,1] bd) (.seq none .d (.seq (some nm2) (.seq none .d (.block (.loop nm3 (.seq none .d (.seq none .d (.seq (some nm4) (.block (.seq none .d (.seq (some nm5) .d .d))) .d)))))) .d)) st RR (fun _ _=>none) RR
noncomputable def ct2:ai U El:=fun st=>al X (cdp [1,1,1,1] bd) .d st RR (fun _ _=>none) RR
noncomputable def ct4 (Kb2 Kb3:ai U El):ai U El:=fun st=>al X (cdp [1,1,1,0,1,0,0,1,1,1] bd) .d st (aF nm3 Kb3) (aS 0 (aF nm2 Kb2) (fun _ _=>none)) RR
noncomputable def ct5 (Kb2 Kb4:ai U El):ai U El:=fun st=>al X (cdp [1,1,1,0,1,0,0,1,1,0,0,1,1] bd) .d st (aF nm4 Kb4) (aS 1 (aF nm4 Kb4) (aS 0 (aF nm2 Kb2) (fun _ _=>none))) RR
theorem P0 (l crews):al X (cdp [] bd) (.seq none .d (.seq (some nm1) .d (.seq none .d (.seq (some nm2) (.seq none .d (.block (.loop nm3 (.seq none .d (.seq none .d (.seq (some nm4) (.block (.seq none .d (.seq (some nm5) .d .d))) .d)))))) .d)))) (fr0 l crews) RR (fun _ _=>none) RR=sh0 l crews (fun y0 y1=>(hid ct1) (fr1 y0 y1)):=by kernel_rfl
theorem P1 (l0 aA):ct1 (fr1 l0 aA)=sh1 l0 aA (fun y0 y1 y2 y3 y4 y5=>(hid (it3 (hid ct2) 100000)) (fr3 y0 y1 y2 y3 y4 y5)):=by kernel_rfl
theorem P2 (l0):ct2 (fr2 l0)=sh2 l0:=by kernel_rfl
theorem P3 (l0 aA cA mA bA lA) (Kb2 Kb3:ai U El):al X (cdp [1,1,1,0,1,0,0] bd) (.seq none .d (.seq none .d (.seq (some nm4) (.block (.seq none .d (.seq (some nm5) .d .d))) .d))) (fr3 l0 aA cA mA bA lA) (aF nm3 Kb3) (aS 0 (aF nm2 Kb2) (fun _ _=>none)) RR=sh3 l0 aA cA mA bA lA (fun y0=>Kb2 (fr2 y0)) (fun y0 y1 y2 y3 y4 y5 y6 y7 y8 y9 y10 y11 y12=>(hid (ct5 Kb2 (hid (ct4 Kb2 Kb3)))) (fr5 y0 y1 y2 y3 y4 y5 y6 y7 y8 y9 y10 y11 y12)):=by kernel_rfl
theorem P4 (l0 aA cA mA bA lA) (Kb2 Kb3:ai U El):ct4 Kb2 Kb3 (fr4 l0 aA cA mA bA lA)=sh4 l0 aA cA mA bA lA (fun y0 y1 y2 y3 y4 y5=>Kb3 (fr3 y0 y1 y2 y3 y4 y5)):=by kernel_rfl
theorem P5 (l0 aA cA mA bA nA oA pA qA rA sA tA lA) (Kb2 Kb4:ai U El):ct5 Kb2 Kb4 (fr5 l0 aA cA mA bA nA oA pA qA rA sA tA lA)=sh5 l0 aA cA mA bA nA oA pA qA rA sA tA lA (fun y0 y1 y2 y3 y4 y5=>Kb4 (fr4 y0 y1 y2 y3 y4 y5)):=by kernel_rfl
noncomputable def f2 (l0:List Work):R:=sh2 l0
noncomputable def f4 (k3:Y3) (l0:List Work) (aA:Int) (cA:List Work) (mA:Int) (bA:Int) (lA:List ((List UInt8)×Bool)):R:=sh4 l0 aA cA mA bA lA k3
noncomputable def f5 (k3:Y3) (l0:List Work) (aA:Int) (cA:List Work) (mA:Int) (bA:Int) (nA:List UInt8) (oA:Int) (pA:List Int) (qA:List UInt8) (rA:List Int) (sA:Int) (tA:Int) (lA:List ((List UInt8)×Bool)):R:=sh5 l0 aA cA mA bA nA oA pA qA rA sA tA lA (f4 k3)
noncomputable def f3:Nat→Y3
  | 0=>fun _ _ _ _ _ _=>none
  | n+1=>fun l0 aA cA mA bA lA=>sh3 l0 aA cA mA bA lA f2 (f5 (f3 n))
noncomputable def f1 (l0:List Work) (aA:Int):R:=sh1 l0 aA (f3 100000)
noncomputable def f0 (l:List Work) (crews:Int):R:=sh0 l crews f1
theorem T2 (l0):(hid ct2) (fr2 l0)=f2 l0:=by
  refine (congrFun (au _) _).trans <| (P2 l0).trans ?_
  show _=sh2 l0
  rfl
theorem T4 (KL3:ai U El) (k3:Y3) (h3:∀ l0 aA cA mA bA lA,KL3 (fr3 l0 aA cA mA bA lA)=k3 l0 aA cA mA bA lA) (l0 aA cA mA bA lA):(hid (ct4 (hid ct2) KL3)) (fr4 l0 aA cA mA bA lA)=f4 k3 l0 aA cA mA bA lA:=by
  refine (congrFun (au _) _).trans <| (P4 l0 aA cA mA bA lA (hid ct2) KL3).trans ?_
  show _=sh4 l0 aA cA mA bA lA k3
  simp only [h3]
theorem T5 (KL3:ai U El) (k3:Y3) (h3:∀ l0 aA cA mA bA lA,KL3 (fr3 l0 aA cA mA bA lA)=k3 l0 aA cA mA bA lA) (l0 aA cA mA bA nA oA pA qA rA sA tA lA):(hid (ct5 (hid ct2) (hid (ct4 (hid ct2) KL3)))) (fr5 l0 aA cA mA bA nA oA pA qA rA sA tA lA)=f5 k3 l0 aA cA mA bA nA oA pA qA rA sA tA lA:=by
  refine (congrFun (au _) _).trans <| (P5 l0 aA cA mA bA nA oA pA qA rA sA tA lA (hid ct2) (hid (ct4 (hid ct2) KL3))).trans ?_
  show _=sh5 l0 aA cA mA bA nA oA pA qA rA sA tA lA (f4 k3)
  simp only [T4 KL3 k3 h3]
theorem T3:∀ (n:Nat),∀ l0 aA cA mA bA lA,it3 (hid ct2) n (fr3 l0 aA cA mA bA lA)=f3 n l0 aA cA mA bA lA:=by
  intro n
  induction n with
  | zero=>intros; rfl
  | succ n ih =>
    intro l0 aA cA mA bA lA
    refine (P3 l0 aA cA mA bA lA (hid ct2) (it3 (hid ct2) n)).trans ?_
    show _=sh3 l0 aA cA mA bA lA f2 (f5 (f3 n))
    simp only [T2,T5 (it3 (hid ct2) n) (f3 n) ih]
theorem H3 (l0 aA cA mA bA lA):hid (it3 (hid ct2) 100000) (fr3 l0 aA cA mA bA lA)=f3 100000 l0 aA cA mA bA lA:=(congrFun (au _) _).trans (T3 100000 l0 aA cA mA bA lA)
theorem T1 (l0 aA):(hid ct1) (fr1 l0 aA)=f1 l0 aA:=by
  refine (congrFun (au _) _).trans <| (P1 l0 aA).trans ?_
  show _=sh1 l0 aA (f3 100000)
  simp only [H3]
theorem T0 (l crews):al X bd (.seq none .d (.seq (some nm1) .d (.seq none .d (.seq (some nm2) (.seq none .d (.block (.loop nm3 (.seq none .d (.seq none .d (.seq (some nm4) (.block (.seq none .d (.seq (some nm5) .d .d))) .d)))))) .d)))) (fr0 l crews) RR (fun _ _=>none) RR=f0 l crews:=by
  refine (P0 l crews).trans ?_
  show _=sh0 l crews f1
  simp only [T1]
theorem run (l crews):aY X bd (.seq none .d (.seq (some nm1) .d (.seq none .d (.seq (some nm2) (.seq none .d (.block (.loop nm3 (.seq none .d (.seq none .d (.seq (some nm4) (.block (.seq none .d (.seq (some nm5) .d .d))) .d)))))) .d)))) nmR [4] [] [(.lst .work l),(.int .i64 crews)]=f0 l crews:=T0 l crews
theorem loop (l : List Work) (crews : Int) (hv : okV l = true) : ∀ (n i : Nat) (seen : List Work) (m : List (List UInt8 × Bool)), l.length < n + i → i ≤ l.length → (∀ s, eB dp m s = bif List.any seen (fun y => y.wn == s) then some true else none) → f3 n l crews l (Int.ofNat l.length) (i : Int) m = bif cm (Int.ofNat l.length) crews seen (l.drop i) then f2 l else bz false := by
  obtain ⟨hl,hw⟩:=gh hv
  intro n
  induction n with
  | zero=>intro i seen m h1 h2; omega
  | succ n ih =>
    intro i seen m h1 h2 hm
    show sh3 l crews l (Int.ofNat l.length) (i:Int) m f2 (f5 (f3 n))=_
    unfold sh3
    by_cases hi:i < l.length
    · obtain ⟨w1, w2⟩ := hw _ (List.getElem_mem hi)
      have e:∀ b1 b2 b3 b4 b5 b6,f5 (f3 n) l crews l (Int.ofNat l.length) (i:Int) l[i].wn b1 b2 b3 b4 b5 b6 m=bif cm (Int.ofNat l.length) crews (seen++[l[i]]) (l.drop (i+1)) then f2 l else bz false:=fun b1 b2 b3 b4 b5 b6=>by
        show f3 n l crews l (Int.ofNat l.length) (IntKind.wrap .i64 ((i:Int)+1)) (ic dp m l[i].wn true)=_
        rw [cl i (by omega)]
        refine ih (i+1) _ _ (by omega) hi fun s => ?_
        rw [oZ dp fL,hm,List.any_append]
        simp only [List.any_cons,List.any_nil,Bool.or_false]
        by_cases hs:s=l[i].wn
        · subst hs
          rw [(fL _ _).2 rfl]
          simp
        · have hk : dp s l[i].wn = false := by
            cases hq:dp s l[i].wn with
            | false=>rfl
            | true=>exact absurd ((fL _ _).1 hq) hs
          have hk2:(l[i].wn == s)=false:=beq_eq_false_iff_ne.2 (Ne.symm hs)
          rw [hk,hk2,Bool.or_false,cond_false]
      have hg:bL dp m l[i].wn d_bool=List.any seen (fun y=>y.wn == l[i].wn):=by
        unfold bL; rw [hm]; cases List.any seen (fun y=>y.wn == l[i].wn)<;>rfl
      rw [ci (by simp; omega),bD hi,ar,az hi,b7 w1,b7 w2,hg,e,bR hi]
      simp only [cm,wk]
      cases bI l[i].wn
      · rfl
      cases List.any seen (fun y=>y.wn == l[i].wn)
      case true=>rfl
      cases (ile 1 l[i].wh&&ile l[i].wh 1000)
      · rfl
      cases (Int.ofNat l[i].wc.length == (0:Int))
      case true=>rfl
      cases fM crews l[i].wc
      · rfl
      cases (l[i].ws == ([]:List UInt8))<;>cases bI l[i].ws<;>try rfl
      all_goals
        cases fM (Int.ofNat l.length) l[i].wa
        · rfl
        cases (ile 0 l[i].wd&&ile l[i].wd 100000)
        · rfl
        cases (ile 0 l[i].wp&&ile l[i].wp 1000000)<;>rfl
    · have : i = l.length := by omega
      subst this
      rw [bZ (by simp),List.drop_length]
      rfl
theorem f0_eq (l:List Work) (crews:Int) (h:okV l=true):f0 l crews=bz (cC l crews):=by
  show sh0 l crews f1=_
  unfold sh0 cC
  have e:f1 l crews=bif cm (Int.ofNat l.length) crews [] l then f2 l else bz false :=
    loop l crews h 100000 0 [] [] (by have:=(gh h).1; omega) (by omega) (fun s=>rfl)
  have e2:f1 l crews=bz (cm (Int.ofNat l.length) crews [] l&&eS l):=by
    rw [e]
    cases hg:cm (Int.ofNat l.length) crews [] l with
    | false=>rfl
    | true =>
      show chk (okO l) (bz (eS l))=_
      rw [mi h hg]
      rfl
  rw [e2]
  cases (ile 1 crews&&ile crews 12)
  · rfl
  cases ilt 100 (Int.ofNat l.length)<;>rfl
theorem ok:CtxOk Tryz.prog X:=aW tab (spC within.spOk (spC isname.spOk (spC ascending.spOk (spC ordered.spOk spN)))) dpN
theorem okM:MOk Tryz.prog X:=fun g sp h=>by cases h
theorem spec (l:List Work) (crews:Int) (h:(okV l)=true):aq Tryz.prog E 29 [(.lst .work l),(.int .i64 crews)] (.bool (cC l crews)) [] :=
  ap ok okM Tryz.call29 Tryz.func29 (by kernel_rfl) (by kernel_rfl) (by kernel_rfl) (by show 2≤89; decide) (by decide) (by rfl) ((run l crews).trans (f0_eq l crews h))
noncomputable def sp:Sp U El:=fun args k=>match args with
  | [.lst .work l,.int .i64 crews]=>chk (okV l) (k (.bool (cC l crews)) [])
  | _=>none
theorem spOk:SpOk Tryz.prog E 29 sp where
  det:=fun vs=>by
    unfold sp
    split
    · exact bq _ _ _
    · exact ⟨none,fun _=>rfl⟩
  ok:=fun vs k r h=>by
    unfold sp at h
    split at h
    · obtain ⟨h1, h2⟩ := ab h
      exact ⟨_,_,spec _ _ h1,h2⟩
    · cases h
end valid
end Go.Proofs.YthdklallcljhlaaGreatDoor
