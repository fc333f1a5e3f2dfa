/- What is large; lists that ascend; searches; works whose works before them are done. -/
import Derived.Test.YthdklallcljhlaaGreatDoorVA
namespace Go.Proofs.YthdklallcljhlaaGreatDoor
set_option linter.unusedSectionVars false
set_option linter.unusedSimpArgs false
set_option linter.unusedVariables false
set_option maxRecDepth 100000
noncomputable def ew (x:Work):Bool:=ilt 20 (Int.ofNat x.wc.length)||(ilt 20 (Int.ofNat x.wa.length)||(ilt 60 (Int.ofNat x.wn.length)||ilt 60 (Int.ofNat x.ws.length)))
noncomputable def dN (l:List Work):Bool:=(ilt 12 (Int.ofNat l.length)&&ile (Int.ofNat l.length) 100)||(ilt 105 (Int.ofNat l.length)||List.any l ew)
noncomputable def okO (l:List Work):Bool:=nle l.length 90000&&List.all l (fun w=>nle w.wa.length 90000&&List.all w.wa (fun a=>inb a l.length))
noncomputable def okV (l:List Work):Bool:=nle l.length 200&&List.all l (fun w=>nle w.wa.length 90000&&nle w.wc.length 90000)
noncomputable def me (lim:Int) (l:List Int) (i:Nat) (x:Int):Bool:=ilt x 0||(ile lim x||(ilt 0 (i:Int)&&ile x (List.getD l (i - 1) bJ)))
noncomputable def dx (lim:Int) (l:List Int):Bool:=ju (fun i x => !(me lim l i x)) 0 l
noncomputable def bK (x y:Int):Bool:=x == y
noncomputable def bQ (dn:List Bool) (a:Int):Bool := !(List.getD dn (Int.toNat a) d_bool)
noncomputable def rdy (dn:List Bool) (w:Work):Bool:=List.all w.wa (fun a=>List.getD dn (Int.toNat a) d_bool)
noncomputable def dP (dn:List Bool):Nat→List Work→Int
  | _,[] => -1
  | i,w :: l=>bif !(List.getD dn i d_bool)&&rdy dn w then (i:Int) else dP dn (i+1) l
noncomputable def ez (l:List Work) (dn:List Bool) (frm:Int):Int:=dP dn (Int.toNat frm) (l.drop (Int.toNat frm))
namespace lg1
noncomputable def bd:Code:=(Tryz.f31.body).getD .skip
noncomputable def X:Ctx U El:=⟨E,tds,zeros,eqs,aH [],100000,25,aB [],fun _=>none⟩
noncomputable def nmR:Norm U:=⟨[],[2],[],[],[],[],[]⟩
noncomputable def RR:ah U El:=fun st=>aL nmR st (aG [2] [])
noncomputable def fr0 (x:Work):St U El:=⟨[(0,(.agg [(.str x.wn),(.int .i64 x.wh),(.lst .int x.wc),(.str x.ws),(.lst .int x.wa),(.int .i64 x.wd),(.int .i64 x.wp)]))],[]⟩
noncomputable def sh0 (x:Work):R :=
  af (ilt (20:Int) (Int.ofNat (List.length x.wc))) (some ((.bool true),[])) (af (ilt (20:Int) (Int.ofNat (List.length x.wa))) (some ((.bool true),[])) (af (ilt (60:Int) (Int.ofNat (List.length x.wn))) (some ((.bool true),[])) (some ((.bool (ilt (60:Int) (Int.ofNat (List.length x.ws)))),[]))))
theorem P0 (x):ak X (cdp [] bd) .d (fr0 x) RR (fun _ _=>none) RR=sh0 x:=by kernel_rfl
noncomputable def f0 (x:Work):R:=sh0 x
theorem T0 (x):ak X bd .d (fr0 x) RR (fun _ _=>none) RR=f0 x:=by
  refine (P0 x).trans ?_
  show _=sh0 x
  rfl
theorem run (x):aS X bd .d nmR [2] [] [(.agg [(.str x.wn),(.int .i64 x.wh),(.lst .int x.wc),(.str x.ws),(.lst .int x.wa),(.int .i64 x.wd),(.int .i64 x.wp)])]=f0 x:=T0 x
theorem f0_eq (x:Work):f0 x=a7 (ew x):=by
  show sh0 x=_
  unfold sh0 ew
  simp only [oB,cOr]
theorem ok:CtxOk Tryz.prog X:=aO tab spN dpN
theorem okM:MOk Tryz.prog X:=fun g sp h=>by cases h
theorem spec (x:Work):ar Tryz.prog E 31 [(.agg [(.str x.wn),(.int .i64 x.wh),(.lst .int x.wc),(.str x.ws),(.lst .int x.wa),(.int .i64 x.wd),(.int .i64 x.wp)])] (.bool (ew x)) [] :=
  al ok okM Tryz.call31 Tryz.func31 (by kernel_rfl) (by kernel_rfl) (by kernel_rfl) (by show 1≤25; decide) (by decide) (by rfl) ((run x).trans (f0_eq x))
noncomputable def sp:Sp U El:=fun args k=>match args with
  | [.agg [.str x_wn,.int .i64 x_wh,.lst .int x_wc,.str x_ws,.lst .int x_wa,.int .i64 x_wd,.int .i64 x_wp]]=>k (.bool (ew (⟨x_wn,x_wh,x_wc,x_ws,x_wa,x_wd,x_wp⟩:Work))) []
  | _=>none
theorem spOk:SpOk Tryz.prog E 31 sp where
  det:=fun vs=>by
    unfold sp
    split
    · exact ⟨some (_,_),fun _=>rfl⟩
    · exact ⟨none,fun _=>rfl⟩
  ok:=fun vs k r h=>by
    unfold sp at h
    split at h
    · exact ⟨_,_,spec ⟨_,_,_,_,_,_,_⟩,h⟩
    · cases h
end lg1
namespace lg1X
noncomputable def bd:Code:=(Tryz.f24.body).getD .skip
noncomputable def X:Ctx U El:=⟨E,tds,zeros,eqs,aH [(31,lg1.sp)],100000,19,aB [],fun _=>none⟩
noncomputable def nmR:Norm U:=⟨[],[4],[],[],[],[],[]⟩
noncomputable def RR:ah U El:=fun st=>aL nmR st (aG [4] [])
noncomputable def nm1:Norm U:=⟨[],[],[],[],[],[],[]⟩
noncomputable def nm2:Norm U:=⟨[],[0,1,7,8],[],[],[],[],[]⟩
abbrev Y1:=R
abbrev Y2:=(List Work)→Int→Int→R
noncomputable def fr0 (l:List Work):St U El:=⟨[(0,(.lst .work l)),(1,(.fn 31 [] []))],[]⟩
noncomputable def fr1:St U El:=⟨[],[]⟩
noncomputable def fr2 (s0:List Work) (x7:Int) (x8:Int):St U El:=⟨[(0,(.lst .work s0)),(1,(.fn 31 [] [])),(7,(.int .i64 x7)),(8,(.int .i64 x8))],[]⟩
noncomputable def sh0 (l:List Work) (k2:Y2):R :=
  k2 l (Int.ofNat (List.length l)) (0:Int)
noncomputable def sh1:R :=
  some ((.int .i64 (-1:Int)),[])
noncomputable def sh2 (s0:List Work) (x7:Int) (x8:Int) (k1:Y1) (k2:Y2):R :=
  af (ilt x8 x7) (chk (inb x8 (List.length s0)) (af (ew (List.getD s0 (Int.toNat x8) ab)) (some ((.int .i64 x8),[])) (k2 s0 x7 (IntKind.wrap .i64 (x8+(1:Int)))))) (k1)
noncomputable def it2 (Kb1:ah U El) (n:Nat):ah U El:=bD nm2 (fun st' K'=>ak X (cdp [1,0,1,0,0] bd) .d st' K' (aC 0 (ap nm1 Kb1) (fun _ _=>none)) RR) n
noncomputable def ct1:ah U El:=fun st=>ak X (cdp [1,1] bd) .d st RR (fun _ _=>none) RR
theorem P0 (l):ak X (cdp [] bd) (.seq none .d (.seq (some nm1) (.seq none .d (.block (.loop nm2 .d))) .d)) (fr0 l) RR (fun _ _=>none) RR=sh0 l (fun y0 y1 y2=>(hid (it2 (hid ct1) 100000)) (fr2 y0 y1 y2)):=by kernel_rfl
theorem P1:ct1 (fr1)=sh1:=by kernel_rfl
theorem P2 (s0 x7 x8) (Kb1 Kb2:ah U El):ak X (cdp [1,0,1,0,0] bd) .d (fr2 s0 x7 x8) (ap nm2 Kb2) (aC 0 (ap nm1 Kb1) (fun _ _=>none)) RR=sh2 s0 x7 x8 (Kb1 (fr1)) (fun y0 y1 y2=>Kb2 (fr2 y0 y1 y2)):=by kernel_rfl
noncomputable def f1:R:=sh1
noncomputable def f2:Nat→Y2
  | 0=>fun _ _ _=>none
  | n+1=>fun s0 x7 x8=>sh2 s0 x7 x8 f1 (f2 n)
noncomputable def f0 (l:List Work):R:=sh0 l (f2 100000)
theorem T1:(hid ct1) (fr1)=f1:=by
  refine (congrFun (am _) _).trans <| (P1).trans ?_
  show _=sh1
  rfl
theorem T2:∀ (n:Nat),∀ s0 x7 x8,it2 (hid ct1) n (fr2 s0 x7 x8)=f2 n s0 x7 x8:=by
  intro n
  induction n with
  | zero=>intros; rfl
  | succ n ih =>
    intro s0 x7 x8
    refine (P2 s0 x7 x8 (hid ct1) (it2 (hid ct1) n)).trans ?_
    show _=sh2 s0 x7 x8 f1 (f2 n)
    simp only [T1,ih]
theorem H2 (s0 x7 x8):hid (it2 (hid ct1) 100000) (fr2 s0 x7 x8)=f2 100000 s0 x7 x8:=(congrFun (am _) _).trans (T2 100000 s0 x7 x8)
theorem T0 (l):ak X bd (.seq none .d (.seq (some nm1) (.seq none .d (.block (.loop nm2 .d))) .d)) (fr0 l) RR (fun _ _=>none) RR=f0 l:=by
  refine (P0 l).trans ?_
  show _=sh0 l (f2 100000)
  simp only [H2]
theorem run (l):aS X bd (.seq none .d (.seq (some nm1) (.seq none .d (.block (.loop nm2 .d))) .d)) nmR [4] [] [(.lst .work l),(.fn 31 [] [])]=f0 l:=T0 l
theorem f0_eq (l:List Work) (h:(nle (List.length l) 90000)=true):f0 l=bO (cn ew 0 l):=by
  have hl:=cm h
  refine (nU l (by omega) (fun n_ (_:Unit) i_=>f2 n_ l (Int.ofNat l.length) i_) _ (fun _=>bO (-1)) (fun n_ u_ i_ hi_ => ?_) (fun n_ u_ => ?_) 100000 0 () (by omega) (by omega)).trans (ko ew bO l 0)
  · show sh2 l (Int.ofNat l.length) i_ f1 (f2 n_) = _
    unfold sh2
    rw [bf (by simp; omega),a8 hi_,aw,aD hi_]
    rfl
  · show sh2 l (Int.ofNat l.length) (l.length : Int) f1 (f2 n_) = _
    unfold sh2
    rw [a6 (by simp)]
    rfl
theorem ok:CtxOk Tryz.prog X:=aO tab (spC lg1.spOk spN) dpN
theorem okM:MOk Tryz.prog X:=fun g sp h=>by cases h
theorem spec (l:List Work) (h:(nle (List.length l) 90000)=true):ar Tryz.prog E 24 [(.lst .work l),(.fn 31 [] [])] (.int .i64 (cn ew 0 l)) [] :=
  al ok okM Tryz.call24 Tryz.func24 (by kernel_rfl) (by kernel_rfl) (by kernel_rfl) (by show 2≤19; decide) (by decide) (by rfl) ((run l).trans (f0_eq l h))
noncomputable def sp:Sp U El:=fun args k=>match args with
  | [.lst .work l,.fn 31 [] []]=>chk (nle (List.length l) 90000) (k (.int .i64 (cn ew 0 l)) [])
  | _=>none
theorem spOk:SpOk Tryz.prog E 24 sp where
  det:=fun vs=>by
    unfold sp
    split
    · exact ba _ _ _
    · exact ⟨none,fun _=>rfl⟩
  ok:=fun vs k r h=>by
    unfold sp at h
    split at h
    · obtain ⟨h1, h2⟩ := ae h
      exact ⟨_,_,spec _ h1,h2⟩
    · cases h
end lg1X
namespace lg1C
noncomputable def bd:Code:=(Tryz.f30.body).getD .skip
noncomputable def X:Ctx U El:=⟨E,tds,zeros,eqs,aH [(24,lg1X.sp)],100000,9,aB [],fun _=>none⟩
noncomputable def nmR:Norm U:=⟨[],[4],[],[],[],[],[]⟩
noncomputable def RR:ah U El:=fun st=>aL nmR st (aG [4] [])
noncomputable def fr0 (l:List Work):St U El:=⟨[(0,(.lst .work l)),(1,(.fn 31 [] []))],[]⟩
noncomputable def sh0 (l:List Work):R :=
  chk (nle (List.length l) 90000) (some ((.bool (ile (0:Int) (cn ew 0 l))),[]))
theorem P0 (l):ak X (cdp [] bd) .d (fr0 l) RR (fun _ _=>none) RR=sh0 l:=by kernel_rfl
noncomputable def f0 (l:List Work):R:=sh0 l
theorem T0 (l):ak X bd .d (fr0 l) RR (fun _ _=>none) RR=f0 l:=by
  refine (P0 l).trans ?_
  show _=sh0 l
  rfl
theorem run (l):aS X bd .d nmR [4] [] [(.lst .work l),(.fn 31 [] [])]=f0 l:=T0 l
theorem f0_eq (l:List Work) (h:(nle (List.length l) 90000)=true):f0 l=a7 (List.any l ew):=by
  show chk _ (a7 _)=_
  rw [h,bn,gP]
theorem ok:CtxOk Tryz.prog X:=aO tab (spC lg1X.spOk spN) dpN
theorem okM:MOk Tryz.prog X:=fun g sp h=>by cases h
theorem spec (l:List Work) (h:(nle (List.length l) 90000)=true):ar Tryz.prog E 30 [(.lst .work l),(.fn 31 [] [])] (.bool (List.any l ew)) [] :=
  al ok okM Tryz.call30 Tryz.func30 (by kernel_rfl) (by kernel_rfl) (by kernel_rfl) (by show 2≤9; decide) (by decide) (by rfl) ((run l).trans (f0_eq l h))
noncomputable def sp:Sp U El:=fun args k=>match args with
  | [.lst .work l,.fn 31 [] []]=>chk (nle (List.length l) 90000) (k (.bool (List.any l ew)) [])
  | _=>none
theorem spOk:SpOk Tryz.prog E 30 sp where
  det:=fun vs=>by
    unfold sp
    split
    · exact ba _ _ _
    · exact ⟨none,fun _=>rfl⟩
  ok:=fun vs k r h=>by
    unfold sp at h
    split at h
    · obtain ⟨h1, h2⟩ := ae h
      exact ⟨_,_,spec _ h1,h2⟩
    · cases h
end lg1C
namespace large
noncomputable def bd:Code:=(Tryz.f6.body).getD .skip
noncomputable def X:Ctx U El:=⟨E,tds,zeros,eqs,aH [(30,lg1C.sp)],100000,20,aB [],fun _=>none⟩
noncomputable def nmR:Norm U:=⟨[],[2],[],[],[],[],[]⟩
noncomputable def RR:ah U El:=fun st=>aL nmR st (aG [2] [])
noncomputable def fr0 (l:List Work):St U El:=⟨[(0,(.lst .work l))],[]⟩
noncomputable def sh0 (l:List Work):R :=
  af (ilt (12:Int) (Int.ofNat (List.length l))) (af (ile (Int.ofNat (List.length l)) (100:Int)) (some ((.bool true),[])) (af (ilt (105:Int) (Int.ofNat (List.length l))) (some ((.bool true),[])) (chk (nle (List.length l) 90000) (some ((.bool (List.any l ew)),[]))))) (af (ilt (105:Int) (Int.ofNat (List.length l))) (some ((.bool true),[])) (chk (nle (List.length l) 90000) (some ((.bool (List.any l ew)),[]))))
theorem P0 (l):ak X (cdp [] bd) .d (fr0 l) RR (fun _ _=>none) RR=sh0 l:=by kernel_rfl
noncomputable def f0 (l:List Work):R:=sh0 l
theorem T0 (l):ak X bd .d (fr0 l) RR (fun _ _=>none) RR=f0 l:=by
  refine (P0 l).trans ?_
  show _=sh0 l
  rfl
theorem run (l):aS X bd .d nmR [2] [] [(.lst .work l)]=f0 l:=T0 l
theorem f0_eq (l:List Work):f0 l=a7 (dN l):=by
  show sh0 l=_
  unfold sh0 dN
  by_cases h:(105:Int) < Int.ofNat l.length
  · rw [show ilt 105 (Int.ofNat l.length) = true from bf h]
    cases ilt 12 (Int.ofNat l.length)<;>cases ile (Int.ofNat l.length) 100<;>rfl
  · rw [show ilt 105 (Int.ofNat l.length) = false from a6 h, bz (show l.length ≤ 90000 by simp at h; omega)]
    cases ilt 12 (Int.ofNat l.length)<;>cases ile (Int.ofNat l.length) 100<;>rfl
theorem ok:CtxOk Tryz.prog X:=aO tab (spC lg1C.spOk spN) dpN
theorem okM:MOk Tryz.prog X:=fun g sp h=>by cases h
theorem spec (l:List Work):ar Tryz.prog E 6 [(.lst .work l)] (.bool (dN l)) [] :=
  al ok okM Tryz.call6 Tryz.func6 (by kernel_rfl) (by kernel_rfl) (by kernel_rfl) (by show 1≤20; decide) (by decide) (by rfl) ((run l).trans (f0_eq l))
noncomputable def sp:Sp U El:=fun args k=>match args with
  | [.lst .work l]=>k (.bool (dN l)) []
  | _=>none
theorem spOk:SpOk Tryz.prog E 6 sp where
  det:=fun vs=>by
    unfold sp
    split
    · exact ⟨some (_,_),fun _=>rfl⟩
    · exact ⟨none,fun _=>rfl⟩
  ok:=fun vs k r h=>by
    unfold sp at h
    split at h
    · exact ⟨_,_,spec _,h⟩
    · cases h
end large
theorem rn (i:Nat) (h0:0 < i) (h:i≤1000000):IntKind.wrap .i64 ((i:Int) - 1)=((i - 1:Nat):Int):=by rw [cB (by omega) (by omega)]; omega
namespace ascending
noncomputable def bd:Code:=(Tryz.f67.body).getD .skip
noncomputable def X:Ctx U El:=⟨E,tds,zeros,eqs,aH [],100000,35,aB [],fun _=>none⟩
noncomputable def nmR:Norm U:=⟨[],[4],[],[],[],[],[]⟩
noncomputable def RR:ah U El:=fun st=>aL nmR st (aG [4] [])
noncomputable def nm1:Norm U:=⟨[],[],[],[],[],[],[]⟩
noncomputable def nm2:Norm U:=⟨[],[0,1,7,8,9],[],[],[],[],[]⟩
noncomputable def nm3:Norm U:=⟨[],[0,1,7,8,9],[],[],[],[],[]⟩
abbrev Y1:=R
abbrev Y2:=(List Int)→Int→(List Int)→Int→Int→R
abbrev Y3:=(List Int)→Int→(List Int)→Int→Int→R
noncomputable def fr0 (l:List Int) (lim:Int):St U El:=⟨[(0,(.lst .int l)),(1,(.int .i64 lim))],[]⟩
noncomputable def fr1:St U El:=⟨[],[]⟩
noncomputable def fr2 (l0:List Int) (aA:Int) (x7:List Int) (x8:Int) (x9:Int):St U El:=⟨[(0,(.lst .int l0)),(1,(.int .i64 aA)),(7,(.lst .int x7)),(8,(.int .i64 x8)),(9,(.int .i64 x9))],[]⟩
noncomputable def fr3 (l0:List Int) (aA:Int) (x7:List Int) (x8:Int) (x9:Int):St U El:=⟨[(0,(.lst .int l0)),(1,(.int .i64 aA)),(7,(.lst .int x7)),(8,(.int .i64 x8)),(9,(.int .i64 x9))],[]⟩
noncomputable def sh0 (l:List Int) (lim:Int) (k2:Y2):R :=
  k2 l lim l (Int.ofNat (List.length l)) (0:Int)
noncomputable def sh1:R :=
  some ((.bool true),[])
noncomputable def sh2 (l0:List Int) (aA:Int) (x7:List Int) (x8:Int) (x9:Int) (k1:Y1) (k3:Y3):R :=
  af (ilt x9 x8) (chk (inb x9 (List.length x7)) (af (ilt (List.getD x7 (Int.toNat x9) bJ) (0:Int)) (some ((.bool false),[])) (af (ile aA (List.getD x7 (Int.toNat x9) bJ)) (some ((.bool false),[])) (af (ilt (0:Int) x9) (chk (inb (IntKind.wrap .i64 (x9 - (1:Int))) (List.length l0)) (af (ile (List.getD x7 (Int.toNat x9) bJ) (List.getD l0 (Int.toNat (IntKind.wrap .i64 (x9 - (1:Int)))) bJ)) (some ((.bool false),[])) (k3 l0 aA x7 x8 x9))) (k3 l0 aA x7 x8 x9))))) (k1)
noncomputable def sh3 (l0:List Int) (aA:Int) (x7:List Int) (x8:Int) (x9:Int) (k2:Y2):R :=
  k2 l0 aA x7 x8 (IntKind.wrap .i64 (x9+(1:Int)))
noncomputable def it2 (Kb1:ah U El) (n:Nat):ah U El:=bD nm2 (fun st' K'=>ak X (cdp [1,0,1,0,0] bd) (.seq none .d (.seq none .d (.seq (some nm3) .d .d))) st' K' (aC 0 (ap nm1 Kb1) (fun _ _=>none)) RR) n
noncomputable def ct1:ah U El:=fun st=>ak X (cdp [1,1] bd) .d st RR (fun _ _=>none) RR
noncomputable def ct3 (Kb1 Kb2:ah U El):ah U El:=fun st=>ak X (cdp [1,0,1,0,0,1,1,1] bd) .d st (ap nm2 Kb2) (aC 0 (ap nm1 Kb1) (fun _ _=>none)) RR
theorem P0 (l lim):ak X (cdp [] bd) (.seq none .d (.seq (some nm1) (.seq none .d (.block (.loop nm2 (.seq none .d (.seq none .d (.seq (some nm3) .d .d)))))) .d)) (fr0 l lim) RR (fun _ _=>none) RR=sh0 l lim (fun y0 y1 y2 y3 y4=>(hid (it2 (hid ct1) 100000)) (fr2 y0 y1 y2 y3 y4)):=by kernel_rfl
theorem P1:ct1 (fr1)=sh1:=by kernel_rfl
theorem P2 (l0 aA x7 x8 x9) (Kb1 Kb2:ah U El):ak X (cdp [1,0,1,0,0] bd) (.seq none .d (.seq none .d (.seq (some nm3) .d .d))) (fr2 l0 aA x7 x8 x9) (ap nm2 Kb2) (aC 0 (ap nm1 Kb1) (fun _ _=>none)) RR=sh2 l0 aA x7 x8 x9 (Kb1 (fr1)) (fun y0 y1 y2 y3 y4=>(hid (ct3 Kb1 Kb2)) (fr3 y0 y1 y2 y3 y4)):=by kernel_rfl
theorem P3 (l0 aA x7 x8 x9) (Kb1 Kb2:ah U El):ct3 Kb1 Kb2 (fr3 l0 aA x7 x8 x9)=sh3 l0 aA x7 x8 x9 (fun y0 y1 y2 y3 y4=>Kb2 (fr2 y0 y1 y2 y3 y4)):=by kernel_rfl
noncomputable def f1:R:=sh1
noncomputable def f3 (k2:Y2) (l0:List Int) (aA:Int) (x7:List Int) (x8:Int) (x9:Int):R:=sh3 l0 aA x7 x8 x9 k2
noncomputable def f2:Nat→Y2
  | 0=>fun _ _ _ _ _=>none
  | n+1=>fun l0 aA x7 x8 x9=>sh2 l0 aA x7 x8 x9 f1 (f3 (f2 n))
noncomputable def f0 (l:List Int) (lim:Int):R:=sh0 l lim (f2 100000)
theorem T1:(hid ct1) (fr1)=f1:=by
  refine (congrFun (am _) _).trans <| (P1).trans ?_
  show _=sh1
  rfl
theorem T3 (KL2:ah U El) (k2:Y2) (h2:∀ l0 aA x7 x8 x9,KL2 (fr2 l0 aA x7 x8 x9)=k2 l0 aA x7 x8 x9) (l0 aA x7 x8 x9):(hid (ct3 (hid ct1) KL2)) (fr3 l0 aA x7 x8 x9)=f3 k2 l0 aA x7 x8 x9:=by
  refine (congrFun (am _) _).trans <| (P3 l0 aA x7 x8 x9 (hid ct1) KL2).trans ?_
  show _=sh3 l0 aA x7 x8 x9 k2
  simp only [h2]
theorem T2:∀ (n:Nat),∀ l0 aA x7 x8 x9,it2 (hid ct1) n (fr2 l0 aA x7 x8 x9)=f2 n l0 aA x7 x8 x9:=by
  intro n
  induction n with
  | zero=>intros; rfl
  | succ n ih =>
    intro l0 aA x7 x8 x9
    refine (P2 l0 aA x7 x8 x9 (hid ct1) (it2 (hid ct1) n)).trans ?_
    show _=sh2 l0 aA x7 x8 x9 f1 (f3 (f2 n))
    simp only [T1,T3 (it2 (hid ct1) n) (f2 n) ih]
theorem H2 (l0 aA x7 x8 x9):hid (it2 (hid ct1) 100000) (fr2 l0 aA x7 x8 x9)=f2 100000 l0 aA x7 x8 x9:=(congrFun (am _) _).trans (T2 100000 l0 aA x7 x8 x9)
theorem T0 (l lim):ak X bd (.seq none .d (.seq (some nm1) (.seq none .d (.block (.loop nm2 (.seq none .d (.seq none .d (.seq (some nm3) .d .d)))))) .d)) (fr0 l lim) RR (fun _ _=>none) RR=f0 l lim:=by
  refine (P0 l lim).trans ?_
  show _=sh0 l lim (f2 100000)
  simp only [H2]
theorem run (l lim):aS X bd (.seq none .d (.seq (some nm1) (.seq none .d (.block (.loop nm2 (.seq none .d (.seq none .d (.seq (some nm3) .d .d)))))) .d)) nmR [4] [] [(.lst .int l),(.int .i64 lim)]=f0 l lim:=T0 l lim
theorem loop (l : List Int) (lim : Int) (hl : l.length ≤ 90000) : ∀ (n i : Nat), l.length < n + i → i ≤ l.length → f2 n l lim l (Int.ofNat l.length) (i : Int) = a7 (ju (fun i x => !(me lim l i x)) i (l.drop i)) := by
  intro n
  induction n with
  | zero=>intro i h1 h2; omega
  | succ n ih =>
    intro i h1 h2
    show sh2 l lim l (Int.ofNat l.length) (i:Int) f1 (f3 (f2 n))=_
    unfold sh2
    by_cases hi:i < l.length
    · have e : f3 (f2 n) l lim l (Int.ofNat l.length) (i : Int) = a7 (ju (fun i x => !(me lim l i x)) (i + 1) (l.drop (i + 1))) := by
        show f2 n l lim l (Int.ofNat l.length) (IntKind.wrap .i64 ((i:Int)+1))=_
        rw [bl i (by omega)]
        exact ih (i+1) (by omega) hi
      rw [bf (by simp; omega),a8 hi,aw,aD hi,e,aZ hi]
      simp only [ju,me,bm,bn]
      by_cases h0:i=0
      · subst h0
        rw [show ilt 0 (((0:Nat):Int))=false from a6 (by simp)]
        cases ilt l[0] 0<;>cases ile lim l[0]<;>rfl
      · rw [bf (show (0 : Int) < (i : Int) by omega), rn i (by omega) (by omega), a8 (show i - 1 < l.length by omega), aw]
        cases ilt l[i] 0<;>cases ile lim l[i]<;>cases ile l[i] (List.getD l (i - 1) bJ)<;>rfl
    · have : i = l.length := by omega
      subst this
      rw [a6 (by simp),List.drop_length]
      rfl
theorem f0_eq (l:List Int) (lim:Int) (h:nle (List.length l) 90000=true):f0 l lim=a7 (dx lim l):=loop l lim (cm h) 100000 0 (by have:=cm h; omega) (by omega)
theorem ok:CtxOk Tryz.prog X:=aO tab spN dpN
theorem okM:MOk Tryz.prog X:=fun g sp h=>by cases h
theorem spec (l:List Int) (lim:Int) (h:(nle (List.length l) 90000)=true):ar Tryz.prog E 67 [(.lst .int l),(.int .i64 lim)] (.bool (dx lim l)) [] :=
  al ok okM Tryz.call67 Tryz.func67 (by kernel_rfl) (by kernel_rfl) (by kernel_rfl) (by show 2≤35; decide) (by decide) (by rfl) ((run l lim).trans (f0_eq l lim h))
noncomputable def sp:Sp U El:=fun args k=>match args with
  | [.lst .int l,.int .i64 lim]=>chk (nle (List.length l) 90000) (k (.bool (dx lim l)) [])
  | _=>none
theorem spOk:SpOk Tryz.prog E 67 sp where
  det:=fun vs=>by
    unfold sp
    split
    · exact ba _ _ _
    · exact ⟨none,fun _=>rfl⟩
  ok:=fun vs k r h=>by
    unfold sp at h
    split at h
    · obtain ⟨h1, h2⟩ := ae h
      exact ⟨_,_,spec _ _ h1,h2⟩
    · cases h
end ascending
namespace rascends
noncomputable def bd:Code:=(Tryz.f77.body).getD .skip
noncomputable def X:Ctx U El:=⟨E,tds,zeros,eqs,aH [],100000,41,aB [],fun _=>none⟩
noncomputable def nmR:Norm U:=⟨[],[4],[],[],[],[],[]⟩
noncomputable def RR:ah U El:=fun st=>aL nmR st (aG [4] [])
noncomputable def nm1:Norm U:=⟨[],[],[],[],[],[],[]⟩
noncomputable def nm2:Norm U:=⟨[],[0,1,5],[],[],[],[],[]⟩
noncomputable def nm3:Norm U:=⟨[],[0,1,5],[],[],[],[],[]⟩
abbrev Y1:=R
abbrev Y2:=(List Int)→Int→Int→R
abbrev Y3:=(List Int)→Int→Int→R
noncomputable def fr0 (l:List Int) (lim:Int):St U El:=⟨[(0,(.lst .int l)),(1,(.int .i64 lim))],[]⟩
noncomputable def fr1:St U El:=⟨[],[]⟩
noncomputable def fr2 (l0:List Int) (aA:Int) (i5:Int):St U El:=⟨[(0,(.lst .int l0)),(1,(.int .i64 aA)),(5,(.int .i64 i5))],[]⟩
noncomputable def fr3 (l0:List Int) (aA:Int) (i5:Int):St U El:=⟨[(0,(.lst .int l0)),(1,(.int .i64 aA)),(5,(.int .i64 i5))],[]⟩
noncomputable def sh0 (l:List Int) (lim:Int) (k2:Y2):R :=
  k2 l lim (0:Int)
noncomputable def sh1:R :=
  some ((.bool true),[])
noncomputable def sh2 (l0:List Int) (aA:Int) (i5:Int) (k1:Y1) (k3:Y3):R :=
  af (ilt i5 (Int.ofNat (List.length l0))) (chk (inb i5 (List.length l0)) (af (ilt (List.getD l0 (Int.toNat i5) bJ) (0:Int)) (some ((.bool false),[])) (chk (inb i5 (List.length l0)) (af (ile aA (List.getD l0 (Int.toNat i5) bJ)) (some ((.bool false),[])) (af (ilt (0:Int) i5) (chk (inb i5 (List.length l0)) (chk (inb (IntKind.wrap .i64 (i5 - (1:Int))) (List.length l0)) (af (ile (List.getD l0 (Int.toNat i5) bJ) (List.getD l0 (Int.toNat (IntKind.wrap .i64 (i5 - (1:Int)))) bJ)) (some ((.bool false),[])) (k3 l0 aA i5)))) (k3 l0 aA i5)))))) (k1)
noncomputable def sh3 (l0:List Int) (aA:Int) (i5:Int) (k2:Y2):R :=
  k2 l0 aA (IntKind.wrap .i64 (i5+(1:Int)))
noncomputable def it2 (Kb1:ah U El) (n:Nat):ah U El:=bD nm2 (fun st' K'=>ak X (cdp [1,0,1,0,0] bd) (.seq none .d (.seq (some nm3) .d .d)) st' K' (aC 0 (ap nm1 Kb1) (fun _ _=>none)) RR) n
noncomputable def ct1:ah U El:=fun st=>ak X (cdp [1,1] bd) .d st RR (fun _ _=>none) RR
noncomputable def ct3 (Kb1 Kb2:ah U El):ah U El:=fun st=>ak X (cdp [1,0,1,0,0,1,1] bd) .d st (ap nm2 Kb2) (aC 0 (ap nm1 Kb1) (fun _ _=>none)) RR
theorem P0 (l lim):ak X (cdp [] bd) (.seq none .d (.seq (some nm1) (.seq none .d (.block (.loop nm2 (.seq none .d (.seq (some nm3) .d .d))))) .d)) (fr0 l lim) RR (fun _ _=>none) RR=sh0 l lim (fun y0 y1 y2=>(hid (it2 (hid ct1) 100000)) (fr2 y0 y1 y2)):=by kernel_rfl
theorem P1:ct1 (fr1)=sh1:=by kernel_rfl
theorem P2 (l0 aA i5) (Kb1 Kb2:ah U El):ak X (cdp [1,0,1,0,0] bd) (.seq none .d (.seq (some nm3) .d .d)) (fr2 l0 aA i5) (ap nm2 Kb2) (aC 0 (ap nm1 Kb1) (fun _ _=>none)) RR=sh2 l0 aA i5 (Kb1 (fr1)) (fun y0 y1 y2=>(hid (ct3 Kb1 Kb2)) (fr3 y0 y1 y2)):=by kernel_rfl
theorem P3 (l0 aA i5) (Kb1 Kb2:ah U El):ct3 Kb1 Kb2 (fr3 l0 aA i5)=sh3 l0 aA i5 (fun y0 y1 y2=>Kb2 (fr2 y0 y1 y2)):=by kernel_rfl
noncomputable def f1:R:=sh1
noncomputable def f3 (k2:Y2) (l0:List Int) (aA:Int) (i5:Int):R:=sh3 l0 aA i5 k2
noncomputable def f2:Nat→Y2
  | 0=>fun _ _ _=>none
  | n+1=>fun l0 aA i5=>sh2 l0 aA i5 f1 (f3 (f2 n))
noncomputable def f0 (l:List Int) (lim:Int):R:=sh0 l lim (f2 100000)
theorem T1:(hid ct1) (fr1)=f1:=by
  refine (congrFun (am _) _).trans <| (P1).trans ?_
  show _=sh1
  rfl
theorem T3 (KL2:ah U El) (k2:Y2) (h2:∀ l0 aA i5,KL2 (fr2 l0 aA i5)=k2 l0 aA i5) (l0 aA i5):(hid (ct3 (hid ct1) KL2)) (fr3 l0 aA i5)=f3 k2 l0 aA i5:=by
  refine (congrFun (am _) _).trans <| (P3 l0 aA i5 (hid ct1) KL2).trans ?_
  show _=sh3 l0 aA i5 k2
  simp only [h2]
theorem T2:∀ (n:Nat),∀ l0 aA i5,it2 (hid ct1) n (fr2 l0 aA i5)=f2 n l0 aA i5:=by
  intro n
  induction n with
  | zero=>intros; rfl
  | succ n ih =>
    intro l0 aA i5
    refine (P2 l0 aA i5 (hid ct1) (it2 (hid ct1) n)).trans ?_
    show _=sh2 l0 aA i5 f1 (f3 (f2 n))
    simp only [T1,T3 (it2 (hid ct1) n) (f2 n) ih]
theorem H2 (l0 aA i5):hid (it2 (hid ct1) 100000) (fr2 l0 aA i5)=f2 100000 l0 aA i5:=(congrFun (am _) _).trans (T2 100000 l0 aA i5)
theorem T0 (l lim):ak X bd (.seq none .d (.seq (some nm1) (.seq none .d (.block (.loop nm2 (.seq none .d (.seq (some nm3) .d .d))))) .d)) (fr0 l lim) RR (fun _ _=>none) RR=f0 l lim:=by
  refine (P0 l lim).trans ?_
  show _=sh0 l lim (f2 100000)
  simp only [H2]
theorem run (l lim):aS X bd (.seq none .d (.seq (some nm1) (.seq none .d (.block (.loop nm2 (.seq none .d (.seq (some nm3) .d .d))))) .d)) nmR [4] [] [(.lst .int l),(.int .i64 lim)]=f0 l lim:=T0 l lim
theorem loop (l : List Int) (lim : Int) (hl : l.length ≤ 90000) : ∀ (n i : Nat), l.length < n + i → i ≤ l.length → f2 n l lim (i : Int) = a7 (ju (fun i x => !(me lim l i x)) i (l.drop i)) := by
  intro n
  induction n with
  | zero=>intro i h1 h2; omega
  | succ n ih =>
    intro i h1 h2
    show sh2 l lim (i:Int) f1 (f3 (f2 n))=_
    unfold sh2
    by_cases hi:i < l.length
    · have e : f3 (f2 n) l lim (i : Int) = a7 (ju (fun i x => !(me lim l i x)) (i + 1) (l.drop (i + 1))) := by
        show f2 n l lim (IntKind.wrap .i64 ((i:Int)+1))=_
        rw [bl i (by omega)]
        exact ih (i+1) (by omega) hi
      rw [bf (by simp; omega),a8 hi,aw,aD hi,e,aZ hi]
      simp only [ju,me,bm,bn]
      by_cases h0:i=0
      · subst h0
        rw [show ilt 0 (((0:Nat):Int))=false from a6 (by simp)]
        cases ilt l[0] 0<;>cases ile lim l[0]<;>rfl
      · rw [bf (show (0 : Int) < (i : Int) by omega), rn i (by omega) (by omega), a8 (show i - 1 < l.length by omega), aw]
        cases ilt l[i] 0<;>cases ile lim l[i]<;>cases ile l[i] (List.getD l (i - 1) bJ)<;>rfl
    · have : i = l.length := by omega
      subst this
      rw [a6 (by simp),List.drop_length]
      rfl
theorem f0_eq (l:List Int) (lim:Int) (h:nle (List.length l) 90000=true):f0 l lim=a7 (dx lim l):=loop l lim (cm h) 100000 0 (by have:=cm h; omega) (by omega)
theorem ok:CtxOk Tryz.prog X:=aO tab spN dpN
theorem okM:MOk Tryz.prog X:=fun g sp h=>by cases h
theorem spec (l:List Int) (lim:Int) (h:(nle (List.length l) 90000)=true):ar Tryz.prog E 77 [(.lst .int l),(.int .i64 lim)] (.bool (dx lim l)) [] :=
  al ok okM Tryz.call77 Tryz.func77 (by kernel_rfl) (by kernel_rfl) (by kernel_rfl) (by show 2≤41; decide) (by decide) (by rfl) ((run l lim).trans (f0_eq l lim h))
noncomputable def sp:Sp U El:=fun args k=>match args with
  | [.lst .int l,.int .i64 lim]=>chk (nle (List.length l) 90000) (k (.bool (dx lim l)) [])
  | _=>none
theorem spOk:SpOk Tryz.prog E 77 sp where
  det:=fun vs=>by
    unfold sp
    split
    · exact ba _ _ _
    · exact ⟨none,fun _=>rfl⟩
  ok:=fun vs k r h=>by
    unfold sp at h
    split at h
    · obtain ⟨h1, h2⟩ := ae h
      exact ⟨_,_,spec _ _ h1,h2⟩
    · cases h
end rascends
namespace rhas
noncomputable def bd:Code:=(Tryz.f79.body).getD .skip
noncomputable def X:Ctx U El:=⟨E,tds,zeros,eqs,aH [],100000,18,aB [],fun _=>none⟩
noncomputable def nmR:Norm U:=⟨[],[4],[],[],[],[],[]⟩
noncomputable def RR:ah U El:=fun st=>aL nmR st (aG [4] [])
noncomputable def nm1:Norm U:=⟨[],[],[],[],[],[],[]⟩
noncomputable def nm2:Norm U:=⟨[],[0,1,5],[],[],[],[],[]⟩
abbrev Y1:=R
abbrev Y2:=(List Int)→Int→Int→R
noncomputable def fr0 (l:List Int) (n:Int):St U El:=⟨[(0,(.lst .int l)),(1,(.int .i64 n))],[]⟩
noncomputable def fr1:St U El:=⟨[],[]⟩
noncomputable def fr2 (l0:List Int) (n1:Int) (i5:Int):St U El:=⟨[(0,(.lst .int l0)),(1,(.int .i64 n1)),(5,(.int .i64 i5))],[]⟩
noncomputable def sh0 (l:List Int) (n:Int) (k2:Y2):R :=
  k2 l n (0:Int)
noncomputable def sh1:R :=
  some ((.bool false),[])
noncomputable def sh2 (l0:List Int) (n1:Int) (i5:Int) (k1:Y1) (k2:Y2):R :=
  af (ilt i5 (Int.ofNat (List.length l0))) (chk (inb i5 (List.length l0)) (af ((List.getD l0 (Int.toNat i5) bJ) == n1) (some ((.bool true),[])) (k2 l0 n1 (IntKind.wrap .i64 (i5+(1:Int)))))) (k1)
noncomputable def it2 (Kb1:ah U El) (n:Nat):ah U El:=bD nm2 (fun st' K'=>ak X (cdp [1,0,1,0,0] bd) .d st' K' (aC 0 (ap nm1 Kb1) (fun _ _=>none)) RR) n
noncomputable def ct1:ah U El:=fun st=>ak X (cdp [1,1] bd) .d st RR (fun _ _=>none) RR
theorem P0 (l n):ak X (cdp [] bd) (.seq none .d (.seq (some nm1) (.seq none .d (.block (.loop nm2 .d))) .d)) (fr0 l n) RR (fun _ _=>none) RR=sh0 l n (fun y0 y1 y2=>(hid (it2 (hid ct1) 100000)) (fr2 y0 y1 y2)):=by kernel_rfl
theorem P1:ct1 (fr1)=sh1:=by kernel_rfl
theorem P2 (l0 n1 i5) (Kb1 Kb2:ah U El):ak X (cdp [1,0,1,0,0] bd) .d (fr2 l0 n1 i5) (ap nm2 Kb2) (aC 0 (ap nm1 Kb1) (fun _ _=>none)) RR=sh2 l0 n1 i5 (Kb1 (fr1)) (fun y0 y1 y2=>Kb2 (fr2 y0 y1 y2)):=by kernel_rfl
noncomputable def f1:R:=sh1
noncomputable def f2:Nat→Y2
  | 0=>fun _ _ _=>none
  | n+1=>fun l0 n1 i5=>sh2 l0 n1 i5 f1 (f2 n)
noncomputable def f0 (l:List Int) (n:Int):R:=sh0 l n (f2 100000)
theorem T1:(hid ct1) (fr1)=f1:=by
  refine (congrFun (am _) _).trans <| (P1).trans ?_
  show _=sh1
  rfl
theorem T2:∀ (n:Nat),∀ l0 n1 i5,it2 (hid ct1) n (fr2 l0 n1 i5)=f2 n l0 n1 i5:=by
  intro n
  induction n with
  | zero=>intros; rfl
  | succ n ih =>
    intro l0 n1 i5
    refine (P2 l0 n1 i5 (hid ct1) (it2 (hid ct1) n)).trans ?_
    show _=sh2 l0 n1 i5 f1 (f2 n)
    simp only [T1,ih]
theorem H2 (l0 n1 i5):hid (it2 (hid ct1) 100000) (fr2 l0 n1 i5)=f2 100000 l0 n1 i5:=(congrFun (am _) _).trans (T2 100000 l0 n1 i5)
theorem T0 (l n):ak X bd (.seq none .d (.seq (some nm1) (.seq none .d (.block (.loop nm2 .d))) .d)) (fr0 l n) RR (fun _ _=>none) RR=f0 l n:=by
  refine (P0 l n).trans ?_
  show _=sh0 l n (f2 100000)
  simp only [H2]
theorem run (l n):aS X bd (.seq none .d (.seq (some nm1) (.seq none .d (.block (.loop nm2 .d))) .d)) nmR [4] [] [(.lst .int l),(.int .i64 n)]=f0 l n:=T0 l n
theorem loop (l:List Int) (x:Int) (hl:l.length≤90000):∀ (n i:Nat),l.length < n+i→i≤l.length→f2 n l x (i:Int)=a7 (List.any (l.drop i) (bK x)):=by
  intro n
  induction n with
  | zero=>intro i h1 h2; omega
  | succ n ih =>
    intro i h1 h2
    show sh2 l x (i:Int) f1 (f2 n)=_
    unfold sh2
    by_cases hi:i < l.length
    · rw [bf (by simp; omega), a8 hi, aw, aD hi, bl i (by omega), ih (i + 1) (by omega) hi, aZ hi, List.any_cons]
      have e:(l[i] == x)=bK x l[i]:=by unfold bK; rw [Bool.eq_iff_iff,beq_iff_eq,beq_iff_eq]; exact ⟨Eq.symm,Eq.symm⟩
      rw [e]
      cases bK x l[i]<;>rfl
    · have : i = l.length := by omega
      subst this
      rw [a6 (by simp),List.drop_length]
      rfl
theorem f0_eq (l:List Int) (x:Int) (h:nle (List.length l) 90000=true):f0 l x=a7 (List.any l (bK x)):=loop l x (cm h) 100000 0 (by have:=cm h; omega) (by omega)
theorem ok:CtxOk Tryz.prog X:=aO tab spN dpN
theorem okM:MOk Tryz.prog X:=fun g sp h=>by cases h
theorem spec (l:List Int) (n:Int) (h:(nle (List.length l) 90000)=true):ar Tryz.prog E 79 [(.lst .int l),(.int .i64 n)] (.bool (List.any l (bK n))) [] :=
  al ok okM Tryz.call79 Tryz.func79 (by kernel_rfl) (by kernel_rfl) (by kernel_rfl) (by show 2≤18; decide) (by decide) (by rfl) ((run l n).trans (f0_eq l n h))
noncomputable def sp:Sp U El:=fun args k=>match args with
  | [.lst .int l,.int .i64 n]=>chk (nle (List.length l) 90000) (k (.bool (List.any l (bK n))) [])
  | _=>none
theorem spOk:SpOk Tryz.prog E 79 sp where
  det:=fun vs=>by
    unfold sp
    split
    · exact ba _ _ _
    · exact ⟨none,fun _=>rfl⟩
  ok:=fun vs k r h=>by
    unfold sp at h
    split at h
    · obtain ⟨h1, h2⟩ := ae h
      exact ⟨_,_,spec _ _ h1,h2⟩
    · cases h
end rhas
namespace idxI
noncomputable def bd:Code:=(Tryz.f117.body).getD .skip
noncomputable def X:Ctx U El:=⟨E,tds,zeros,eqs,aH [],100000,19,aB [],fun _=>none⟩
noncomputable def nmR:Norm U:=⟨[],[4],[],[],[],[],[]⟩
noncomputable def RR:ah U El:=fun st=>aL nmR st (aG [4] [])
noncomputable def nm1:Norm U:=⟨[],[],[],[],[],[],[]⟩
noncomputable def nm2:Norm U:=⟨[],[0,1,7,8],[],[],[],[],[]⟩
abbrev Y1:=R
abbrev Y2:=(List Int)→Int→Int→Int→R
noncomputable def fr0 (l:List Int) (x:Int):St U El:=⟨[(0,(.lst .int l)),(1,(.int .i64 x))],[]⟩
noncomputable def fr1:St U El:=⟨[],[]⟩
noncomputable def fr2 (s0:List Int) (v1:Int) (x7:Int) (x8:Int):St U El:=⟨[(0,(.lst .int s0)),(1,(.int .i64 v1)),(7,(.int .i64 x7)),(8,(.int .i64 x8))],[]⟩
noncomputable def sh0 (l:List Int) (x:Int) (k2:Y2):R :=
  k2 l x (Int.ofNat (List.length l)) (0:Int)
noncomputable def sh1:R :=
  some ((.int .i64 (-1:Int)),[])
noncomputable def sh2 (s0:List Int) (v1:Int) (x7:Int) (x8:Int) (k1:Y1) (k2:Y2):R :=
  af (ilt x8 x7) (chk (inb x8 (List.length s0)) (af (v1 == (List.getD s0 (Int.toNat x8) bJ)) (some ((.int .i64 x8),[])) (k2 s0 v1 x7 (IntKind.wrap .i64 (x8+(1:Int)))))) (k1)
noncomputable def it2 (Kb1:ah U El) (n:Nat):ah U El:=bD nm2 (fun st' K'=>ak X (cdp [1,0,1,0,0] bd) .d st' K' (aC 0 (ap nm1 Kb1) (fun _ _=>none)) RR) n
noncomputable def ct1:ah U El:=fun st=>ak X (cdp [1,1] bd) .d st RR (fun _ _=>none) RR
theorem P0 (l x):ak X (cdp [] bd) (.seq none .d (.seq (some nm1) (.seq none .d (.block (.loop nm2 .d))) .d)) (fr0 l x) RR (fun _ _=>none) RR=sh0 l x (fun y0 y1 y2 y3=>(hid (it2 (hid ct1) 100000)) (fr2 y0 y1 y2 y3)):=by kernel_rfl
theorem P1:ct1 (fr1)=sh1:=by kernel_rfl
theorem P2 (s0 v1 x7 x8) (Kb1 Kb2:ah U El):ak X (cdp [1,0,1,0,0] bd) .d (fr2 s0 v1 x7 x8) (ap nm2 Kb2) (aC 0 (ap nm1 Kb1) (fun _ _=>none)) RR=sh2 s0 v1 x7 x8 (Kb1 (fr1)) (fun y0 y1 y2 y3=>Kb2 (fr2 y0 y1 y2 y3)):=by kernel_rfl
noncomputable def f1:R:=sh1
noncomputable def f2:Nat→Y2
  | 0=>fun _ _ _ _=>none
  | n+1=>fun s0 v1 x7 x8=>sh2 s0 v1 x7 x8 f1 (f2 n)
noncomputable def f0 (l:List Int) (x:Int):R:=sh0 l x (f2 100000)
theorem T1:(hid ct1) (fr1)=f1:=by
  refine (congrFun (am _) _).trans <| (P1).trans ?_
  show _=sh1
  rfl
theorem T2:∀ (n:Nat),∀ s0 v1 x7 x8,it2 (hid ct1) n (fr2 s0 v1 x7 x8)=f2 n s0 v1 x7 x8:=by
  intro n
  induction n with
  | zero=>intros; rfl
  | succ n ih =>
    intro s0 v1 x7 x8
    refine (P2 s0 v1 x7 x8 (hid ct1) (it2 (hid ct1) n)).trans ?_
    show _=sh2 s0 v1 x7 x8 f1 (f2 n)
    simp only [T1,ih]
theorem H2 (s0 v1 x7 x8):hid (it2 (hid ct1) 100000) (fr2 s0 v1 x7 x8)=f2 100000 s0 v1 x7 x8:=(congrFun (am _) _).trans (T2 100000 s0 v1 x7 x8)
theorem T0 (l x):ak X bd (.seq none .d (.seq (some nm1) (.seq none .d (.block (.loop nm2 .d))) .d)) (fr0 l x) RR (fun _ _=>none) RR=f0 l x:=by
  refine (P0 l x).trans ?_
  show _=sh0 l x (f2 100000)
  simp only [H2]
theorem run (l x):aS X bd (.seq none .d (.seq (some nm1) (.seq none .d (.block (.loop nm2 .d))) .d)) nmR [4] [] [(.lst .int l),(.int .i64 x)]=f0 l x:=T0 l x
theorem f0_eq (l:List Int) (x:Int) (h:(nle (List.length l) 90000)=true):f0 l x=bO (cn (bK x) 0 l):=by
  have hl:=cm h
  refine (nU l (by omega) (fun n_ (_:Unit) i_=>f2 n_ l x (Int.ofNat l.length) i_) _ (fun _=>bO (-1)) (fun n_ u_ i_ hi_ => ?_) (fun n_ u_ => ?_) 100000 0 () (by omega) (by omega)).trans (ko (bK x) bO l 0)
  · show sh2 l x (Int.ofNat l.length) i_ f1 (f2 n_) = _
    unfold sh2
    rw [bf (by simp; omega),a8 hi_,aw,aD hi_]
    rfl
  · show sh2 l x (Int.ofNat l.length) (l.length : Int) f1 (f2 n_) = _
    unfold sh2
    rw [a6 (by simp)]
    rfl
theorem ok:CtxOk Tryz.prog X:=aO tab spN dpN
theorem okM:MOk Tryz.prog X:=fun g sp h=>by cases h
theorem spec (l:List Int) (x:Int) (h:(nle (List.length l) 90000)=true):ar Tryz.prog E 117 [(.lst .int l),(.int .i64 x)] (.int .i64 (cn (bK x) 0 l)) [] :=
  al ok okM Tryz.call117 Tryz.func117 (by kernel_rfl) (by kernel_rfl) (by kernel_rfl) (by show 2≤19; decide) (by decide) (by rfl) ((run l x).trans (f0_eq l x h))
noncomputable def sp:Sp U El:=fun args k=>match args with
  | [.lst .int l,.int .i64 x]=>chk (nle (List.length l) 90000) (k (.int .i64 (cn (bK x) 0 l)) [])
  | _=>none
theorem spOk:SpOk Tryz.prog E 117 sp where
  det:=fun vs=>by
    unfold sp
    split
    · exact ba _ _ _
    · exact ⟨none,fun _=>rfl⟩
  ok:=fun vs k r h=>by
    unfold sp at h
    split at h
    · obtain ⟨h1, h2⟩ := ae h
      exact ⟨_,_,spec _ _ h1,h2⟩
    · cases h
end idxI
namespace hasI
noncomputable def bd:Code:=(Tryz.f82.body).getD .skip
noncomputable def X:Ctx U El:=⟨E,tds,zeros,eqs,aH [(117,idxI.sp)],100000,9,aB [],fun _=>none⟩
noncomputable def nmR:Norm U:=⟨[],[4],[],[],[],[],[]⟩
noncomputable def RR:ah U El:=fun st=>aL nmR st (aG [4] [])
noncomputable def fr0 (l:List Int) (x:Int):St U El:=⟨[(0,(.lst .int l)),(1,(.int .i64 x))],[]⟩
noncomputable def sh0 (l:List Int) (x:Int):R :=
  chk (nle (List.length l) 90000) (some ((.bool (ile (0:Int) (cn (bK x) 0 l))),[]))
theorem P0 (l x):ak X (cdp [] bd) .d (fr0 l x) RR (fun _ _=>none) RR=sh0 l x:=by kernel_rfl
noncomputable def f0 (l:List Int) (x:Int):R:=sh0 l x
theorem T0 (l x):ak X bd .d (fr0 l x) RR (fun _ _=>none) RR=f0 l x:=by
  refine (P0 l x).trans ?_
  show _=sh0 l x
  rfl
theorem run (l x):aS X bd .d nmR [4] [] [(.lst .int l),(.int .i64 x)]=f0 l x:=T0 l x
theorem f0_eq (l:List Int) (x:Int) (h:(nle (List.length l) 90000)=true):f0 l x=a7 (List.any l (bK x)):=by
  show sh0 l x=_
  unfold sh0
  rw [h,← gP (bK x) l 0]
  rfl
theorem ok:CtxOk Tryz.prog X:=aO tab (spC idxI.spOk spN) dpN
theorem okM:MOk Tryz.prog X:=fun g sp h=>by cases h
theorem spec (l:List Int) (x:Int) (h:(nle (List.length l) 90000)=true):ar Tryz.prog E 82 [(.lst .int l),(.int .i64 x)] (.bool (List.any l (bK x))) [] :=
  al ok okM Tryz.call82 Tryz.func82 (by kernel_rfl) (by kernel_rfl) (by kernel_rfl) (by show 2≤9; decide) (by decide) (by rfl) ((run l x).trans (f0_eq l x h))
noncomputable def sp:Sp U El:=fun args k=>match args with
  | [.lst .int l,.int .i64 x]=>chk (nle (List.length l) 90000) (k (.bool (List.any l (bK x))) [])
  | _=>none
theorem spOk:SpOk Tryz.prog E 82 sp where
  det:=fun vs=>by
    unfold sp
    split
    · exact ba _ _ _
    · exact ⟨none,fun _=>rfl⟩
  ok:=fun vs k r h=>by
    unfold sp at h
    split at h
    · obtain ⟨h1, h2⟩ := ae h
      exact ⟨_,_,spec _ _ h1,h2⟩
    · cases h
end hasI
noncomputable def qW (v:AV U El) (dn:List Bool):R:=some (v,[(1000000000,.box 1000000000 [.ful 1000000001]),(1000000001,.rows .bool dn)])
namespace ord1
noncomputable def bd:Code:=(Tryz.f93.body).getD .skip
noncomputable def X:Ctx U El:=⟨E,tds,zeros,eqs,aH [],100000,9,aB [],fun _=>none⟩
noncomputable def nmR:Norm U:=⟨[],[3],[1000000000,1000000001],[],[(1000000000,0,.bool,1000000001)],[],[]⟩
noncomputable def RR:ah U El:=fun st=>aL nmR st (fO [3])
noncomputable def fr0 (a:Int) (dn:List Bool):St U El:=⟨[(0,(.int .i64 a)),(1,(.ptr 1000000000 0))],[(1000000000,(.box 1000000000 [(.ful 1000000001)])),(1000000001,(.rows .bool dn))]⟩
noncomputable def sh0 (a:Int) (dn:List Bool):R :=
  chk (inb a (List.length dn)) (chk (nlt (Int.toNat a) (List.length dn)) (some ((.bool (!(List.getD dn (Int.toNat a) d_bool))),[(1000000000,(.box 1000000000 [(.ful 1000000001)])),(1000000001,(.rows .bool dn))])))
theorem P0 (a dn):ak X (cdp [] bd) .d (fr0 a dn) RR (fun _ _=>none) RR=sh0 a dn:=by kernel_rfl
noncomputable def f0 (a:Int) (dn:List Bool):R:=sh0 a dn
theorem T0 (a dn):ak X bd .d (fr0 a dn) RR (fun _ _=>none) RR=f0 a dn:=by
  refine (P0 a dn).trans ?_
  show _=sh0 a dn
  rfl
theorem run (a dn):qT X bd .d nmR [3] [(1000000000,(.box 1000000000 [(.ful 1000000001)])),(1000000001,(.rows .bool dn))] [(.int .i64 a),(.ptr 1000000000 0)]=f0 a dn:=T0 a dn
theorem f0_eq (a:Int) (dn:List Bool) (h:inb a (List.length dn)=true):f0 a dn=qW (.bool (bQ dn a)) dn:=by
  show sh0 a dn=_
  unfold sh0
  have h1:Int.toNat a < dn.length:=by
    simp only [inb,Bool.and_eq_true] at h
    have h1:=dw h.1; have h2:=oO h.2
    omega
  rw [h,j5 h1]
  rfl
theorem ok:CtxOk Tryz.prog X:=aO tab spN dpN
theorem okM:MOk Tryz.prog X:=fun g sp h=>by cases h
theorem spec (a:Int) (dn:List Bool) (h:(inb a (List.length dn))=true):MCall Tryz.prog E 93 [(.int .i64 a),(.ptr 1000000000 0)] [(1000000000,(.box 1000000000 [(.ful 1000000001)])),(1000000001,(.rows .bool dn))] (.bool (bQ dn a)) [(1000000000,(.box 1000000000 [(.ful 1000000001)])),(1000000001,(.rows .bool dn))] :=
  fP ok okM Tryz.func93 (by kernel_rfl) (by kernel_rfl) (by kernel_rfl) (by show 2≤9; decide) ((run a dn).trans (f0_eq a dn h))
noncomputable def sp:MSp U El:=fun args hs k=>match args,hs with
  | [.int .i64 a,.ptr q0 0],[(q1,.box q2 [.ful q3]),(q4,.rows .bool dn)]=>chk (Nat.beq q0 1000000000&&(Nat.beq q1 1000000000&&(Nat.beq q2 1000000000&&(Nat.beq q3 1000000001&&(Nat.beq q4 1000000001&&true))))) (chk (inb a (List.length dn)) (k (.bool (bQ dn a)) [(1000000000,(.box 1000000000 [(.ful 1000000001)])),(1000000001,(.rows .bool dn))]))
  | _,_=>none
theorem spOk:li Tryz.prog E 93 sp:=⟨Tryz.call93,fun args hs k r h=>by
  unfold sp at h
  split at h
  · obtain ⟨hq, hA⟩ := ae h
    clear h
    simp only [Bool.and_eq_true] at hq
    obtain ⟨e0,e1,e2,e3,e4,_⟩:=hq
    cases Nat.eq_of_beq_eq_true e0
    cases Nat.eq_of_beq_eq_true e1
    cases Nat.eq_of_beq_eq_true e2
    cases Nat.eq_of_beq_eq_true e3
    cases Nat.eq_of_beq_eq_true e4
    obtain ⟨h1,hB⟩:=ae hA
    exact ⟨_,_,spec _ _ h1,hB⟩
  · cases h⟩
theorem spDet:∀ args hs,∃ oo:Option (AV U El×au U El),∀ k,sp args hs k=oo.bind fun p=>k p.1 p.2:=fun args hs=>by
  unfold sp
  split
  · exact dY (dY ⟨some (_,_),fun _=>rfl⟩)
  · exact ⟨none,fun _=>rfl⟩
end ord1
namespace ordX
noncomputable def bd:Code:=(Tryz.f125.body).getD .skip
noncomputable def X:Ctx U El:=⟨E,tds,zeros,eqs,aH [],100000,19,aB [],c9 [(93,(m9 ord1.sp))]⟩
noncomputable def nmR:Norm U:=⟨[],[4],[1000000000,1000000001],[],[(1000000000,0,.bool,1000000001)],[],[]⟩
noncomputable def RR:ah U El:=fun st=>aL nmR st (fO [4])
noncomputable def nm1:Norm U:=⟨[],[],[1000000000,1000000001],[],[(1000000000,0,.bool,1000000001)],[],[]⟩
noncomputable def nm2:Norm U:=⟨[],[0,1,7,8],[1000000000,1000000001],[],[(1000000000,0,.bool,1000000001)],[],[]⟩
abbrev Y1:=(List Bool)→R
abbrev Y2:=(List Int)→Int→Int→(List Bool)→R
noncomputable def fr0 (l:List Int) (dn:List Bool):St U El:=⟨[(0,(.lst .int l)),(1,(.fn 93 [] [(.ptr 1000000000 0)]))],[(1000000000,(.box 1000000000 [(.ful 1000000001)])),(1000000001,(.rows .bool dn))]⟩
noncomputable def fr1 (bA:List Bool):St U El:=⟨[],[(1000000000,(.box 1000000000 [(.ful 1000000001)])),(1000000001,(.rows .bool bA))]⟩
noncomputable def fr2 (s0:List Int) (x7:Int) (x8:Int) (bA:List Bool):St U El:=⟨[(0,(.lst .int s0)),(1,(.fn 93 [] [(.ptr 1000000000 0)])),(7,(.int .i64 x7)),(8,(.int .i64 x8))],[(1000000000,(.box 1000000000 [(.ful 1000000001)])),(1000000001,(.rows .bool bA))]⟩
noncomputable def sh0 (l:List Int) (dn:List Bool) (k2:Y2):R :=
  k2 l (Int.ofNat (List.length l)) (0:Int) dn
noncomputable def sh1 (bA:List Bool):R :=
  some ((.int .i64 (-1:Int)),[(1000000000,(.box 1000000000 [(.ful 1000000001)])),(1000000001,(.rows .bool bA))])
noncomputable def sh2 (s0:List Int) (x7:Int) (x8:Int) (bA:List Bool) (k1:Y1) (k2:Y2):R :=
  af (ilt x8 x7) (chk (inb x8 (List.length s0)) (chk (inb (List.getD s0 (Int.toNat x8) bJ) (List.length bA)) (af (bQ bA (List.getD s0 (Int.toNat x8) bJ)) (some ((.int .i64 x8),[(1000000000,(.box 1000000000 [(.ful 1000000001)])),(1000000001,(.rows .bool bA))])) (k2 s0 x7 (IntKind.wrap .i64 (x8+(1:Int))) bA)))) (k1 bA)
noncomputable def it2 (Kb1:ah U El) (n:Nat):ah U El:=bD nm2 (fun st' K'=>ak X (cdp [1,0,1,0,0] bd) .d st' K' (aC 0 (ap nm1 Kb1) (fun _ _=>none)) RR) n
noncomputable def ct1:ah U El:=fun st=>ak X (cdp [1,1] bd) .d st RR (fun _ _=>none) RR
theorem P0 (l dn):ak X (cdp [] bd) (.seq none .d (.seq (some nm1) (.seq none .d (.block (.loop nm2 .d))) .d)) (fr0 l dn) RR (fun _ _=>none) RR=sh0 l dn (fun y0 y1 y2 y3=>(hid (it2 (hid ct1) 100000)) (fr2 y0 y1 y2 y3)):=by kernel_rfl
theorem P1 (bA):ct1 (fr1 bA)=sh1 bA:=by kernel_rfl
theorem P2 (s0 x7 x8 bA) (Kb1 Kb2:ah U El):ak X (cdp [1,0,1,0,0] bd) .d (fr2 s0 x7 x8 bA) (ap nm2 Kb2) (aC 0 (ap nm1 Kb1) (fun _ _=>none)) RR=sh2 s0 x7 x8 bA (fun y0=>Kb1 (fr1 y0)) (fun y0 y1 y2 y3=>Kb2 (fr2 y0 y1 y2 y3)):=by kernel_rfl
noncomputable def f1 (bA:List Bool):R:=sh1 bA
noncomputable def f2:Nat→Y2
  | 0=>fun _ _ _ _=>none
  | n+1=>fun s0 x7 x8 bA=>sh2 s0 x7 x8 bA f1 (f2 n)
noncomputable def f0 (l:List Int) (dn:List Bool):R:=sh0 l dn (f2 100000)
theorem T1 (bA):(hid ct1) (fr1 bA)=f1 bA:=by
  refine (congrFun (am _) _).trans <| (P1 bA).trans ?_
  show _=sh1 bA
  rfl
theorem T2:∀ (n:Nat),∀ s0 x7 x8 bA,it2 (hid ct1) n (fr2 s0 x7 x8 bA)=f2 n s0 x7 x8 bA:=by
  intro n
  induction n with
  | zero=>intros; rfl
  | succ n ih =>
    intro s0 x7 x8 bA
    refine (P2 s0 x7 x8 bA (hid ct1) (it2 (hid ct1) n)).trans ?_
    show _=sh2 s0 x7 x8 bA f1 (f2 n)
    simp only [T1,ih]
theorem H2 (s0 x7 x8 bA):hid (it2 (hid ct1) 100000) (fr2 s0 x7 x8 bA)=f2 100000 s0 x7 x8 bA:=(congrFun (am _) _).trans (T2 100000 s0 x7 x8 bA)
theorem T0 (l dn):ak X bd (.seq none .d (.seq (some nm1) (.seq none .d (.block (.loop nm2 .d))) .d)) (fr0 l dn) RR (fun _ _=>none) RR=f0 l dn:=by
  refine (P0 l dn).trans ?_
  show _=sh0 l dn (f2 100000)
  simp only [H2]
theorem run (l dn):qT X bd (.seq none .d (.seq (some nm1) (.seq none .d (.block (.loop nm2 .d))) .d)) nmR [4] [(1000000000,(.box 1000000000 [(.ful 1000000001)])),(1000000001,(.rows .bool dn))] [(.lst .int l),(.fn 93 [] [(.ptr 1000000000 0)])]=f0 l dn:=T0 l dn
theorem loop (l:List Int) (dn:List Bool) (hl:l.length≤90000) (hd:∀ a∈l,inb a dn.length=true):∀ (n i:Nat),l.length < n+i→i≤l.length→f2 n l (Int.ofNat l.length) (i:Int) dn=qW (.int .i64 (cn (bQ dn) i (l.drop i))) dn:=by
  intro n
  induction n with
  | zero=>intro i h1 h2; omega
  | succ n ih =>
    intro i h1 h2
    show sh2 l (Int.ofNat l.length) (i:Int) dn f1 (f2 n)=_
    unfold sh2
    by_cases hi:i < l.length
    · rw [bf (by simp; omega), a8 hi, aw, aD hi, hd _ (List.getElem_mem hi), bl i (by omega), ih (i + 1) (by omega) hi, aZ hi]
      simp only [cn]
      cases bQ dn l[i]<;>rfl
    · have : i = l.length := by omega
      subst this
      rw [a6 (by simp),List.drop_length]
      rfl
theorem f0_eq (l:List Int) (dn:List Bool) (h:(nle (List.length l) 90000&&List.all l (fun a=>inb a (List.length dn)))=true):f0 l dn=qW (.int .i64 (cn (bQ dn) 0 l)) dn:=by
  simp only [Bool.and_eq_true] at h
  exact loop l dn (cm h.1) (List.all_eq_true.1 h.2) 100000 0 (by have:=cm h.1; omega) (by omega)
theorem ok:CtxOk Tryz.prog X:=aO tab spN dpN
theorem okM:MOk Tryz.prog X:=cJ _ (mpC (iB ok ord1.spOk) mpN)
theorem spec (l:List Int) (dn:List Bool) (h:((nle (List.length l) 90000&&List.all l (fun a=>inb a (List.length dn))))=true):MCall Tryz.prog E 125 [(.lst .int l),(.fn 93 [] [(.ptr 1000000000 0)])] [(1000000000,(.box 1000000000 [(.ful 1000000001)])),(1000000001,(.rows .bool dn))] (.int .i64 (cn (bQ dn) 0 l)) [(1000000000,(.box 1000000000 [(.ful 1000000001)])),(1000000001,(.rows .bool dn))] :=
  fP ok okM Tryz.func125 (by kernel_rfl) (by kernel_rfl) (by kernel_rfl) (by show 2≤19; decide) ((run l dn).trans (f0_eq l dn h))
noncomputable def sp:MSp U El:=fun args hs k=>match args,hs with
  | [.lst .int l,.fn 93 [] [.ptr q0 0]],[(q1,.box q2 [.ful q3]),(q4,.rows .bool dn)]=>chk (Nat.beq q0 1000000000&&(Nat.beq q1 1000000000&&(Nat.beq q2 1000000000&&(Nat.beq q3 1000000001&&(Nat.beq q4 1000000001&&true))))) (chk ((nle (List.length l) 90000&&List.all l (fun a=>inb a (List.length dn)))) (k (.int .i64 (cn (bQ dn) 0 l)) [(1000000000,(.box 1000000000 [(.ful 1000000001)])),(1000000001,(.rows .bool dn))]))
  | _,_=>none
theorem spOk:li Tryz.prog E 125 sp:=⟨Tryz.call125,fun args hs k r h=>by
  unfold sp at h
  split at h
  · obtain ⟨hq, hA⟩ := ae h
    clear h
    simp only [Bool.and_eq_true] at hq
    obtain ⟨e0,e1,e2,e3,e4,_⟩:=hq
    cases Nat.eq_of_beq_eq_true e0
    cases Nat.eq_of_beq_eq_true e1
    cases Nat.eq_of_beq_eq_true e2
    cases Nat.eq_of_beq_eq_true e3
    cases Nat.eq_of_beq_eq_true e4
    obtain ⟨h1,hB⟩:=ae hA
    exact ⟨_,_,spec _ _ h1,hB⟩
  · cases h⟩
theorem spDet:∀ args hs,∃ oo:Option (AV U El×au U El),∀ k,sp args hs k=oo.bind fun p=>k p.1 p.2:=fun args hs=>by
  unfold sp
  split
  · exact dY (dY ⟨some (_,_),fun _=>rfl⟩)
  · exact ⟨none,fun _=>rfl⟩
end ordX
namespace ordC
noncomputable def bd:Code:=(Tryz.f87.body).getD .skip
noncomputable def X:Ctx U El:=⟨E,tds,zeros,eqs,aH [],100000,9,aB [],c9 [(125,(m9 ordX.sp))]⟩
noncomputable def nmR:Norm U:=⟨[],[4],[1000000000,1000000001],[],[(1000000000,0,.bool,1000000001)],[],[]⟩
noncomputable def RR:ah U El:=fun st=>aL nmR st (fO [4])
noncomputable def fr0 (l:List Int) (dn:List Bool):St U El:=⟨[(0,(.lst .int l)),(1,(.fn 93 [] [(.ptr 1000000000 0)]))],[(1000000000,(.box 1000000000 [(.ful 1000000001)])),(1000000001,(.rows .bool dn))]⟩
noncomputable def sh0 (l:List Int) (dn:List Bool):R :=
  chk ((nle (List.length l) 90000&&List.all l (fun a=>inb a (List.length dn)))) (some ((.bool (ile (0:Int) (cn (bQ dn) 0 l))),[(1000000000,(.box 1000000000 [(.ful 1000000001)])),(1000000001,(.rows .bool dn))]))
theorem P0 (l dn):ak X (cdp [] bd) .d (fr0 l dn) RR (fun _ _=>none) RR=sh0 l dn:=by kernel_rfl
noncomputable def f0 (l:List Int) (dn:List Bool):R:=sh0 l dn
theorem T0 (l dn):ak X bd .d (fr0 l dn) RR (fun _ _=>none) RR=f0 l dn:=by
  refine (P0 l dn).trans ?_
  show _=sh0 l dn
  rfl
theorem run (l dn):qT X bd .d nmR [4] [(1000000000,(.box 1000000000 [(.ful 1000000001)])),(1000000001,(.rows .bool dn))] [(.lst .int l),(.fn 93 [] [(.ptr 1000000000 0)])]=f0 l dn:=T0 l dn
theorem f0_eq (l:List Int) (dn:List Bool) (h:(nle (List.length l) 90000&&List.all l (fun a=>inb a (List.length dn)))=true):f0 l dn=qW (.bool (List.any l (bQ dn))) dn:=by
  show sh0 l dn=_
  unfold sh0
  rw [h,← gP (bQ dn) l 0]
  rfl
theorem ok:CtxOk Tryz.prog X:=aO tab spN dpN
theorem okM:MOk Tryz.prog X:=cJ _ (mpC (iB ok ordX.spOk) mpN)
theorem spec (l:List Int) (dn:List Bool) (h:((nle (List.length l) 90000&&List.all l (fun a=>inb a (List.length dn))))=true):MCall Tryz.prog E 87 [(.lst .int l),(.fn 93 [] [(.ptr 1000000000 0)])] [(1000000000,(.box 1000000000 [(.ful 1000000001)])),(1000000001,(.rows .bool dn))] (.bool (List.any l (bQ dn))) [(1000000000,(.box 1000000000 [(.ful 1000000001)])),(1000000001,(.rows .bool dn))] :=
  fP ok okM Tryz.func87 (by kernel_rfl) (by kernel_rfl) (by kernel_rfl) (by show 2≤9; decide) ((run l dn).trans (f0_eq l dn h))
noncomputable def sp:MSp U El:=fun args hs k=>match args,hs with
  | [.lst .int l,.fn 93 [] [.ptr q0 0]],[(q1,.box q2 [.ful q3]),(q4,.rows .bool dn)]=>chk (Nat.beq q0 1000000000&&(Nat.beq q1 1000000000&&(Nat.beq q2 1000000000&&(Nat.beq q3 1000000001&&(Nat.beq q4 1000000001&&true))))) (chk ((nle (List.length l) 90000&&List.all l (fun a=>inb a (List.length dn)))) (k (.bool (List.any l (bQ dn))) [(1000000000,(.box 1000000000 [(.ful 1000000001)])),(1000000001,(.rows .bool dn))]))
  | _,_=>none
theorem spOk:li Tryz.prog E 87 sp:=⟨Tryz.call87,fun args hs k r h=>by
  unfold sp at h
  split at h
  · obtain ⟨hq, hA⟩ := ae h
    clear h
    simp only [Bool.and_eq_true] at hq
    obtain ⟨e0,e1,e2,e3,e4,_⟩:=hq
    cases Nat.eq_of_beq_eq_true e0
    cases Nat.eq_of_beq_eq_true e1
    cases Nat.eq_of_beq_eq_true e2
    cases Nat.eq_of_beq_eq_true e3
    cases Nat.eq_of_beq_eq_true e4
    obtain ⟨h1,hB⟩:=ae hA
    exact ⟨_,_,spec _ _ h1,hB⟩
  · cases h⟩
theorem spDet:∀ args hs,∃ oo:Option (AV U El×au U El),∀ k,sp args hs k=oo.bind fun p=>k p.1 p.2:=fun args hs=>by
  unfold sp
  split
  · exact dY (dY ⟨some (_,_),fun _=>rfl⟩)
  · exact ⟨none,fun _=>rfl⟩
end ordC
end Go.Proofs.YthdklallcljhlaaGreatDoor
