/- What is large; lists that ascend; searches; works whose works before them are done. -/
import Derived.Test.YthdklallcljhlaaVA
namespace Go.Proofs.Ythdklallcljhlaa
set_option linter.unusedSectionVars false
set_option linter.unusedSimpArgs false
set_option linter.unusedVariables false
set_option maxRecDepth 100000
noncomputable def eG (x:Work):Bool:=ilt 20 (Int.ofNat x.wc.length)||(ilt 20 (Int.ofNat x.wa.length)||(ilt 60 (Int.ofNat x.wn.length)||ilt 60 (Int.ofNat x.ws.length)))
noncomputable def eH (l:List Work):Bool:=(ilt 12 (Int.ofNat l.length)&&ile (Int.ofNat l.length) 100)||(ilt 105 (Int.ofNat l.length)||List.any l eG)
noncomputable def okO (l:List Work):Bool:=nle l.length 90000&&List.all l (fun w=>nle w.wa.length 90000&&List.all w.wa (fun a=>inb a l.length))
noncomputable def okV (l:List Work):Bool:=nle l.length 200&&List.all l (fun w=>nle w.wa.length 90000&&nle w.wc.length 90000)
noncomputable def kX (lim:Int) (l:List Int) (i:Nat) (x:Int):Bool:=ilt x 0||(ile lim x||(ilt 0 (i:Int)&&ile x (List.getD l (i - 1) d_int)))
noncomputable def dF (lim:Int) (l:List Int):Bool:=jG (fun i x => !(kX lim l i x)) 0 l
noncomputable def bc (x y:Int):Bool:=x == y
noncomputable def aW (dn:List Bool) (a:Int):Bool := !(List.getD dn (Int.toNat a) d_bool)
noncomputable def rdy (dn:List Bool) (w:Work):Bool:=List.all w.wa (fun a=>List.getD dn (Int.toNat a) d_bool)
noncomputable def dX (dn:List Bool):Nat→List Work→Int
  | _,[] => -1
  | i,w :: l=>bif !(List.getD dn i d_bool)&&rdy dn w then (i:Int) else dX dn (i+1) l
noncomputable def bM (l:List Work) (dn:List Bool) (frm:Int):Int:=dX dn (Int.toNat frm) (l.drop (Int.toNat frm))
namespace lg1
noncomputable def bd:Code:=(Try.f31.body).getD .skip
noncomputable def X:Ctx U El:=⟨E,tds,zeros,eqs,aG [],100000,25,aD [],fun _=>none⟩
noncomputable def nmR:Norm U:=⟨[],[2],[],[],[],[],[]⟩
noncomputable def RR:ae U El:=fun st=>aM nmR st (aK [2] [])
noncomputable def fr0 (x:Work):St U El:=⟨[(0,(.agg [(.str x.wn),(.int .i64 x.wh),(.lst .int x.wc),(.str x.ws),(.lst .int x.wa),(.int .i64 x.wd),(.int .i64 x.wp)]))],[]⟩
noncomputable def sh0 (x:Work):R :=
  ah (ilt (20:Int) (Int.ofNat (List.length x.wc))) (some ((.bool true),[])) (ah (ilt (20:Int) (Int.ofNat (List.length x.wa))) (some ((.bool true),[])) (ah (ilt (60:Int) (Int.ofNat (List.length x.wn))) (some ((.bool true),[])) (some ((.bool (ilt (60:Int) (Int.ofNat (List.length x.ws)))),[]))))
theorem P0 (x):ak X (cdp [] bd) .d (fr0 x) RR (fun _ _=>none) RR=sh0 x:=by kernel_rfl
noncomputable def f0 (x:Work):R:=sh0 x
theorem T0 (x):ak X bd .d (fr0 x) RR (fun _ _=>none) RR=f0 x:=by
  refine (P0 x).trans ?_
  show _=sh0 x
  rfl
theorem run (x):bg X bd .d nmR [2] [] [(.agg [(.str x.wn),(.int .i64 x.wh),(.lst .int x.wc),(.str x.ws),(.lst .int x.wa),(.int .i64 x.wd),(.int .i64 x.wp)])]=f0 x:=T0 x
theorem f0_eq (x:Work):f0 x=bm (eG x):=by
  show sh0 x=_
  unfold sh0 eG
  simp only [oB,cOr]
theorem ok:CtxOk Try.prog X:=aU tab spN dpN
theorem okM:MOk Try.prog X:=fun g sp h=>by cases h
theorem spec (x:Work):az Try.prog E 31 [(.agg [(.str x.wn),(.int .i64 x.wh),(.lst .int x.wc),(.str x.ws),(.lst .int x.wa),(.int .i64 x.wd),(.int .i64 x.wp)])] (.bool (eG x)) [] :=
  aq ok okM Try.call31 Try.func31 (by kernel_rfl) (by kernel_rfl) (by kernel_rfl) (by show 1≤25; decide) (by decide) (by rfl) ((run x).trans (f0_eq x))
noncomputable def sp:Sp U El:=fun args k=>match args with
  | [.agg [.str x_wn,.int .i64 x_wh,.lst .int x_wc,.str x_ws,.lst .int x_wa,.int .i64 x_wd,.int .i64 x_wp]]=>k (.bool (eG (⟨x_wn,x_wh,x_wc,x_ws,x_wa,x_wd,x_wp⟩:Work))) []
  | _=>none
theorem spOk:SpOk Try.prog E 31 sp where
  det:=fun vs=>by
    unfold sp
    split
    · exact ⟨some (_,_),fun _=>rfl⟩
    · exact ⟨none,fun _=>rfl⟩
  ok:=fun vs k r h=>by
    unfold sp at h
    split at h
    · exact ⟨_,_,spec ⟨_,_,_,_,_,_,_⟩,h⟩
    · cases h
end lg1
namespace lg1X
noncomputable def bd:Code:=(Try.f63.body).getD .skip
noncomputable def X:Ctx U El:=⟨E,tds,zeros,eqs,aG [(31,lg1.sp)],100000,19,aD [],fun _=>none⟩
noncomputable def nmR:Norm U:=⟨[],[4],[],[],[],[],[]⟩
noncomputable def RR:ae U El:=fun st=>aM nmR st (aK [4] [])
noncomputable def nm1:Norm U:=⟨[],[],[],[],[],[],[]⟩
noncomputable def nm2:Norm U:=⟨[],[0,1,7,8],[],[],[],[],[]⟩
abbrev Y1:=R
abbrev Y2:=(List Work)→Int→Int→R
noncomputable def fr0 (l:List Work):St U El:=⟨[(0,(.lst .work l)),(1,(.fn 31 [] []))],[]⟩
noncomputable def fr1:St U El:=⟨[],[]⟩
noncomputable def fr2 (s0:List Work) (x7:Int) (x8:Int):St U El:=⟨[(0,(.lst .work s0)),(1,(.fn 31 [] [])),(7,(.int .i64 x7)),(8,(.int .i64 x8))],[]⟩
noncomputable def sh0 (l:List Work) (k2:Y2):R :=
  k2 l (Int.ofNat (List.length l)) (0:Int)
noncomputable def sh1:R :=
  some ((.int .i64 (-1:Int)),[])
noncomputable def sh2 (s0:List Work) (x7:Int) (x8:Int) (k1:Y1) (k2:Y2):R :=
  ah (ilt x8 x7) (chk (inb x8 (List.length s0)) (ah (eG (List.getD s0 (Int.toNat x8) aa)) (some ((.int .i64 x8),[])) (k2 s0 x7 (IntKind.wrap .i64 (x8+(1:Int)))))) (k1)
noncomputable def it2 (Kb1:ae U El) (n:Nat):ae U El:=bL nm2 (fun st' K'=>ak X (cdp [1,0,1,0,0] bd) .d st' K' (aw 0 (ap nm1 Kb1) (fun _ _=>none)) RR) n
noncomputable def ct1:ae U El:=fun st=>ak X (cdp [1,1] bd) .d st RR (fun _ _=>none) RR
theorem P0 (l):ak X (cdp [] bd) (.seq none .d (.seq (some nm1) (.seq none .d (.block (.loop nm2 .d))) .d)) (fr0 l) RR (fun _ _=>none) RR=sh0 l (fun y0 y1 y2=>(hid (it2 (hid ct1) 100000)) (fr2 y0 y1 y2)):=by kernel_rfl
theorem P1:ct1 (fr1)=sh1:=by kernel_rfl
theorem P2 (s0 x7 x8) (Kb1 Kb2:ae U El):ak X (cdp [1,0,1,0,0] bd) .d (fr2 s0 x7 x8) (ap nm2 Kb2) (aw 0 (ap nm1 Kb1) (fun _ _=>none)) RR=sh2 s0 x7 x8 (Kb1 (fr1)) (fun y0 y1 y2=>Kb2 (fr2 y0 y1 y2)):=by kernel_rfl
noncomputable def f1:R:=sh1
noncomputable def f2:Nat→Y2
  | 0=>fun _ _ _=>none
  | n+1=>fun s0 x7 x8=>sh2 s0 x7 x8 f1 (f2 n)
noncomputable def f0 (l:List Work):R:=sh0 l (f2 100000)
theorem T1:(hid ct1) (fr1)=f1:=by
  refine (congrFun (am _) _).trans <| (P1).trans ?_
  show _=sh1
  rfl
theorem T2:∀ (n:Nat),∀ s0 x7 x8,it2 (hid ct1) n (fr2 s0 x7 x8)=f2 n s0 x7 x8:=by
  intro n
  induction n with
  | zero=>intros; rfl
  | succ n ih =>
    intro s0 x7 x8
    refine (P2 s0 x7 x8 (hid ct1) (it2 (hid ct1) n)).trans ?_
    show _=sh2 s0 x7 x8 f1 (f2 n)
    simp only [T1,ih]
theorem H2 (s0 x7 x8):hid (it2 (hid ct1) 100000) (fr2 s0 x7 x8)=f2 100000 s0 x7 x8:=(congrFun (am _) _).trans (T2 100000 s0 x7 x8)
theorem T0 (l):ak X bd (.seq none .d (.seq (some nm1) (.seq none .d (.block (.loop nm2 .d))) .d)) (fr0 l) RR (fun _ _=>none) RR=f0 l:=by
  refine (P0 l).trans ?_
  show _=sh0 l (f2 100000)
  simp only [H2]
theorem run (l):bg X bd (.seq none .d (.seq (some nm1) (.seq none .d (.block (.loop nm2 .d))) .d)) nmR [4] [] [(.lst .work l),(.fn 31 [] [])]=f0 l:=T0 l
theorem f0_eq (l:List Work) (h:(nle (List.length l) 90000)=true):f0 l=dK (bW eG 0 l):=by
  have hl:=cn h
  refine (nR l (by omega) (fun n_ (_:Unit) i_=>f2 n_ l (Int.ofNat l.length) i_) _ (fun _=>dK (-1)) (fun n_ u_ i_ hi_ => ?_) (fun n_ u_ => ?_) 100000 0 () (by omega) (by omega)).trans (kp eG dK l 0)
  · show sh2 l (Int.ofNat l.length) i_ f1 (f2 n_) = _
    unfold sh2
    rw [bw (by simp; omega),aZ hi_,ac,al hi_]
    rfl
  · show sh2 l (Int.ofNat l.length) (l.length : Int) f1 (f2 n_) = _
    unfold sh2
    rw [bp (by simp)]
    rfl
theorem ok:CtxOk Try.prog X:=aU tab (spC lg1.spOk spN) dpN
theorem okM:MOk Try.prog X:=fun g sp h=>by cases h
theorem spec (l:List Work) (h:(nle (List.length l) 90000)=true):az Try.prog E 63 [(.lst .work l),(.fn 31 [] [])] (.int .i64 (bW eG 0 l)) [] :=
  aq ok okM Try.call63 Try.func63 (by kernel_rfl) (by kernel_rfl) (by kernel_rfl) (by show 2≤19; decide) (by decide) (by rfl) ((run l).trans (f0_eq l h))
noncomputable def sp:Sp U El:=fun args k=>match args with
  | [.lst .work l,.fn 31 [] []]=>chk (nle (List.length l) 90000) (k (.int .i64 (bW eG 0 l)) [])
  | _=>none
theorem spOk:SpOk Try.prog E 63 sp where
  det:=fun vs=>by
    unfold sp
    split
    · exact bz _ _ _
    · exact ⟨none,fun _=>rfl⟩
  ok:=fun vs k r h=>by
    unfold sp at h
    split at h
    · obtain ⟨h1, h2⟩ := ab h
      exact ⟨_,_,spec _ h1,h2⟩
    · cases h
end lg1X
namespace lg1C
noncomputable def bd:Code:=(Try.f30.body).getD .skip
noncomputable def X:Ctx U El:=⟨E,tds,zeros,eqs,aG [(63,lg1X.sp)],100000,9,aD [],fun _=>none⟩
noncomputable def nmR:Norm U:=⟨[],[4],[],[],[],[],[]⟩
noncomputable def RR:ae U El:=fun st=>aM nmR st (aK [4] [])
noncomputable def fr0 (l:List Work):St U El:=⟨[(0,(.lst .work l)),(1,(.fn 31 [] []))],[]⟩
noncomputable def sh0 (l:List Work):R :=
  chk (nle (List.length l) 90000) (some ((.bool (ile (0:Int) (bW eG 0 l))),[]))
theorem P0 (l):ak X (cdp [] bd) .d (fr0 l) RR (fun _ _=>none) RR=sh0 l:=by kernel_rfl
noncomputable def f0 (l:List Work):R:=sh0 l
theorem T0 (l):ak X bd .d (fr0 l) RR (fun _ _=>none) RR=f0 l:=by
  refine (P0 l).trans ?_
  show _=sh0 l
  rfl
theorem run (l):bg X bd .d nmR [4] [] [(.lst .work l),(.fn 31 [] [])]=f0 l:=T0 l
theorem f0_eq (l:List Work) (h:(nle (List.length l) 90000)=true):f0 l=bm (List.any l eG):=by
  show chk _ (bm _)=_
  rw [h,cS,fB]
theorem ok:CtxOk Try.prog X:=aU tab (spC lg1X.spOk spN) dpN
theorem okM:MOk Try.prog X:=fun g sp h=>by cases h
theorem spec (l:List Work) (h:(nle (List.length l) 90000)=true):az Try.prog E 30 [(.lst .work l),(.fn 31 [] [])] (.bool (List.any l eG)) [] :=
  aq ok okM Try.call30 Try.func30 (by kernel_rfl) (by kernel_rfl) (by kernel_rfl) (by show 2≤9; decide) (by decide) (by rfl) ((run l).trans (f0_eq l h))
noncomputable def sp:Sp U El:=fun args k=>match args with
  | [.lst .work l,.fn 31 [] []]=>chk (nle (List.length l) 90000) (k (.bool (List.any l eG)) [])
  | _=>none
theorem spOk:SpOk Try.prog E 30 sp where
  det:=fun vs=>by
    unfold sp
    split
    · exact bz _ _ _
    · exact ⟨none,fun _=>rfl⟩
  ok:=fun vs k r h=>by
    unfold sp at h
    split at h
    · obtain ⟨h1, h2⟩ := ab h
      exact ⟨_,_,spec _ h1,h2⟩
    · cases h
end lg1C
namespace large
noncomputable def bd:Code:=(Try.f10.body).getD .skip
noncomputable def X:Ctx U El:=⟨E,tds,zeros,eqs,aG [(30,lg1C.sp)],100000,20,aD [],fun _=>none⟩
noncomputable def nmR:Norm U:=⟨[],[2],[],[],[],[],[]⟩
noncomputable def RR:ae U El:=fun st=>aM nmR st (aK [2] [])
noncomputable def fr0 (l:List Work):St U El:=⟨[(0,(.lst .work l))],[]⟩
noncomputable def sh0 (l:List Work):R :=
  ah (ilt (12:Int) (Int.ofNat (List.length l))) (ah (ile (Int.ofNat (List.length l)) (100:Int)) (some ((.bool true),[])) (ah (ilt (105:Int) (Int.ofNat (List.length l))) (some ((.bool true),[])) (chk (nle (List.length l) 90000) (some ((.bool (List.any l eG)),[]))))) (ah (ilt (105:Int) (Int.ofNat (List.length l))) (some ((.bool true),[])) (chk (nle (List.length l) 90000) (some ((.bool (List.any l eG)),[]))))
theorem P0 (l):ak X (cdp [] bd) .d (fr0 l) RR (fun _ _=>none) RR=sh0 l:=by kernel_rfl
noncomputable def f0 (l:List Work):R:=sh0 l
theorem T0 (l):ak X bd .d (fr0 l) RR (fun _ _=>none) RR=f0 l:=by
  refine (P0 l).trans ?_
  show _=sh0 l
  rfl
theorem run (l):bg X bd .d nmR [2] [] [(.lst .work l)]=f0 l:=T0 l
theorem f0_eq (l:List Work):f0 l=bm (eH l):=by
  show sh0 l=_
  unfold sh0 eH
  by_cases h:(105:Int) < Int.ofNat l.length
  · rw [show ilt 105 (Int.ofNat l.length) = true from bw h]
    cases ilt 12 (Int.ofNat l.length)<;>cases ile (Int.ofNat l.length) 100<;>rfl
  · rw [show ilt 105 (Int.ofNat l.length) = false from bp h, bC (show l.length ≤ 90000 by simp at h; omega)]
    cases ilt 12 (Int.ofNat l.length)<;>cases ile (Int.ofNat l.length) 100<;>rfl
theorem ok:CtxOk Try.prog X:=aU tab (spC lg1C.spOk spN) dpN
theorem okM:MOk Try.prog X:=fun g sp h=>by cases h
theorem spec (l:List Work):az Try.prog E 10 [(.lst .work l)] (.bool (eH l)) [] :=
  aq ok okM Try.call10 Try.func10 (by kernel_rfl) (by kernel_rfl) (by kernel_rfl) (by show 1≤20; decide) (by decide) (by rfl) ((run l).trans (f0_eq l))
noncomputable def sp:Sp U El:=fun args k=>match args with
  | [.lst .work l]=>k (.bool (eH l)) []
  | _=>none
theorem spOk:SpOk Try.prog E 10 sp where
  det:=fun vs=>by
    unfold sp
    split
    · exact ⟨some (_,_),fun _=>rfl⟩
    · exact ⟨none,fun _=>rfl⟩
  ok:=fun vs k r h=>by
    unfold sp at h
    split at h
    · exact ⟨_,_,spec _,h⟩
    · cases h
end large
theorem ry (i:Nat) (h0:0 < i) (h:i≤1000000):IntKind.wrap .i64 ((i:Int) - 1)=((i - 1:Nat):Int):=by rw [bU (by omega) (by omega)]; omega
namespace ascending
noncomputable def bd:Code:=(Try.f37.body).getD .skip
noncomputable def X:Ctx U El:=⟨E,tds,zeros,eqs,aG [],100000,35,aD [],fun _=>none⟩
noncomputable def nmR:Norm U:=⟨[],[4],[],[],[],[],[]⟩
noncomputable def RR:ae U El:=fun st=>aM nmR st (aK [4] [])
noncomputable def nm1:Norm U:=⟨[],[],[],[],[],[],[]⟩
noncomputable def nm2:Norm U:=⟨[],[0,1,7,8,9],[],[],[],[],[]⟩
noncomputable def nm3:Norm U:=⟨[],[0,1,7,8,9],[],[],[],[],[]⟩
abbrev Y1:=R
abbrev Y2:=(List Int)→Int→(List Int)→Int→Int→R
abbrev Y3:=(List Int)→Int→(List Int)→Int→Int→R
noncomputable def fr0 (l:List Int) (lim:Int):St U El:=⟨[(0,(.lst .int l)),(1,(.int .i64 lim))],[]⟩
noncomputable def fr1:St U El:=⟨[],[]⟩
noncomputable def fr2 (l0:List Int) (aA:Int) (x7:List Int) (x8:Int) (x9:Int):St U El:=⟨[(0,(.lst .int l0)),(1,(.int .i64 aA)),(7,(.lst .int x7)),(8,(.int .i64 x8)),(9,(.int .i64 x9))],[]⟩
noncomputable def fr3 (l0:List Int) (aA:Int) (x7:List Int) (x8:Int) (x9:Int):St U El:=⟨[(0,(.lst .int l0)),(1,(.int .i64 aA)),(7,(.lst .int x7)),(8,(.int .i64 x8)),(9,(.int .i64 x9))],[]⟩
noncomputable def sh0 (l:List Int) (lim:Int) (k2:Y2):R :=
  k2 l lim l (Int.ofNat (List.length l)) (0:Int)
noncomputable def sh1:R :=
  some ((.bool true),[])
noncomputable def sh2 (l0:List Int) (aA:Int) (x7:List Int) (x8:Int) (x9:Int) (k1:Y1) (k3:Y3):R :=
  ah (ilt x9 x8) (chk (inb x9 (List.length x7)) (ah (ilt (List.getD x7 (Int.toNat x9) d_int) (0:Int)) (some ((.bool false),[])) (ah (ile aA (List.getD x7 (Int.toNat x9) d_int)) (some ((.bool false),[])) (ah (ilt (0:Int) x9) (chk (inb (IntKind.wrap .i64 (x9 - (1:Int))) (List.length l0)) (ah (ile (List.getD x7 (Int.toNat x9) d_int) (List.getD l0 (Int.toNat (IntKind.wrap .i64 (x9 - (1:Int)))) d_int)) (some ((.bool false),[])) (k3 l0 aA x7 x8 x9))) (k3 l0 aA x7 x8 x9))))) (k1)
noncomputable def sh3 (l0:List Int) (aA:Int) (x7:List Int) (x8:Int) (x9:Int) (k2:Y2):R :=
  k2 l0 aA x7 x8 (IntKind.wrap .i64 (x9+(1:Int)))
noncomputable def it2 (Kb1:ae U El) (n:Nat):ae U El:=bL nm2 (fun st' K'=>ak X (cdp [1,0,1,0,0] bd) (.seq none .d (.seq none .d (.seq (some nm3) .d .d))) st' K' (aw 0 (ap nm1 Kb1) (fun _ _=>none)) RR) n
noncomputable def ct1:ae U El:=fun st=>ak X (cdp [1,1] bd) .d st RR (fun _ _=>none) RR
noncomputable def ct3 (Kb1 Kb2:ae U El):ae U El:=fun st=>ak X (cdp [1,0,1,0,0,1,1,1] bd) .d st (ap nm2 Kb2) (aw 0 (ap nm1 Kb1) (fun _ _=>none)) RR
theorem P0 (l lim):ak X (cdp [] bd) (.seq none .d (.seq (some nm1) (.seq none .d (.block (.loop nm2 (.seq none .d (.seq none .d (.seq (some nm3) .d .d)))))) .d)) (fr0 l lim) RR (fun _ _=>none) RR=sh0 l lim (fun y0 y1 y2 y3 y4=>(hid (it2 (hid ct1) 100000)) (fr2 y0 y1 y2 y3 y4)):=by kernel_rfl
theorem P1:ct1 (fr1)=sh1:=by kernel_rfl
theorem P2 (l0 aA x7 x8 x9) (Kb1 Kb2:ae U El):ak X (cdp [1,0,1,0,0] bd) (.seq none .d (.seq none .d (.seq (some nm3) .d .d))) (fr2 l0 aA x7 x8 x9) (ap nm2 Kb2) (aw 0 (ap nm1 Kb1) (fun _ _=>none)) RR=sh2 l0 aA x7 x8 x9 (Kb1 (fr1)) (fun y0 y1 y2 y3 y4=>(hid (ct3 Kb1 Kb2)) (fr3 y0 y1 y2 y3 y4)):=by kernel_rfl
theorem P3 (l0 aA x7 x8 x9) (Kb1 Kb2:ae U El):ct3 Kb1 Kb2 (fr3 l0 aA x7 x8 x9)=sh3 l0 aA x7 x8 x9 (fun y0 y1 y2 y3 y4=>Kb2 (fr2 y0 y1 y2 y3 y4)):=by kernel_rfl
noncomputable def f1:R:=sh1
noncomputable def f3 (k2:Y2) (l0:List Int) (aA:Int) (x7:List Int) (x8:Int) (x9:Int):R:=sh3 l0 aA x7 x8 x9 k2
noncomputable def f2:Nat→Y2
  | 0=>fun _ _ _ _ _=>none
  | n+1=>fun l0 aA x7 x8 x9=>sh2 l0 aA x7 x8 x9 f1 (f3 (f2 n))
noncomputable def f0 (l:List Int) (lim:Int):R:=sh0 l lim (f2 100000)
theorem T1:(hid ct1) (fr1)=f1:=by
  refine (congrFun (am _) _).trans <| (P1).trans ?_
  show _=sh1
  rfl
theorem T3 (KL2:ae U El) (k2:Y2) (h2:∀ l0 aA x7 x8 x9,KL2 (fr2 l0 aA x7 x8 x9)=k2 l0 aA x7 x8 x9) (l0 aA x7 x8 x9):(hid (ct3 (hid ct1) KL2)) (fr3 l0 aA x7 x8 x9)=f3 k2 l0 aA x7 x8 x9:=by
  refine (congrFun (am _) _).trans <| (P3 l0 aA x7 x8 x9 (hid ct1) KL2).trans ?_
  show _=sh3 l0 aA x7 x8 x9 k2
  simp only [h2]
theorem T2:∀ (n:Nat),∀ l0 aA x7 x8 x9,it2 (hid ct1) n (fr2 l0 aA x7 x8 x9)=f2 n l0 aA x7 x8 x9:=by
  intro n
  induction n with
  | zero=>intros; rfl
  | succ n ih =>
    intro l0 aA x7 x8 x9
    refine (P2 l0 aA x7 x8 x9 (hid ct1) (it2 (hid ct1) n)).trans ?_
    show _=sh2 l0 aA x7 x8 x9 f1 (f3 (f2 n))
    simp only [T1,T3 (it2 (hid ct1) n) (f2 n) ih]
theorem H2 (l0 aA x7 x8 x9):hid (it2 (hid ct1) 100000) (fr2 l0 aA x7 x8 x9)=f2 100000 l0 aA x7 x8 x9:=(congrFun (am _) _).trans (T2 100000 l0 aA x7 x8 x9)
theorem T0 (l lim):ak X bd (.seq none .d (.seq (some nm1) (.seq none .d (.block (.loop nm2 (.seq none .d (.seq none .d (.seq (some nm3) .d .d)))))) .d)) (fr0 l lim) RR (fun _ _=>none) RR=f0 l lim:=by
  refine (P0 l lim).trans ?_
  show _=sh0 l lim (f2 100000)
  simp only [H2]
theorem run (l lim):bg X bd (.seq none .d (.seq (some nm1) (.seq none .d (.block (.loop nm2 (.seq none .d (.seq none .d (.seq (some nm3) .d .d)))))) .d)) nmR [4] [] [(.lst .int l),(.int .i64 lim)]=f0 l lim:=T0 l lim
theorem loop (l : List Int) (lim : Int) (hl : l.length ≤ 90000) : ∀ (n i : Nat), l.length < n + i → i ≤ l.length → f2 n l lim l (Int.ofNat l.length) (i : Int) = bm (jG (fun i x => !(kX lim l i x)) i (l.drop i)) := by
  intro n
  induction n with
  | zero=>intro i h1 h2; omega
  | succ n ih =>
    intro i h1 h2
    show sh2 l lim l (Int.ofNat l.length) (i:Int) f1 (f3 (f2 n))=_
    unfold sh2
    by_cases hi:i < l.length
    · have e : f3 (f2 n) l lim l (Int.ofNat l.length) (i : Int) = bm (jG (fun i x => !(kX lim l i x)) (i + 1) (l.drop (i + 1))) := by
        show f2 n l lim l (Int.ofNat l.length) (IntKind.wrap .i64 ((i:Int)+1))=_
        rw [bo i (by omega)]
        exact ih (i+1) (by omega) hi
      rw [bw (by simp; omega),aZ hi,ac,al hi,e,bl hi]
      simp only [jG,kX,cH,cS]
      by_cases h0:i=0
      · subst h0
        rw [show ilt 0 (((0:Nat):Int))=false from bp (by simp)]
        cases ilt l[0] 0<;>cases ile lim l[0]<;>rfl
      · rw [bw (show (0 : Int) < (i : Int) by omega), ry i (by omega) (by omega), aZ (show i - 1 < l.length by omega), ac]
        cases ilt l[i] 0<;>cases ile lim l[i]<;>cases ile l[i] (List.getD l (i - 1) d_int)<;>rfl
    · have : i = l.length := by omega
      subst this
      rw [bp (by simp),List.drop_length]
      rfl
theorem f0_eq (l:List Int) (lim:Int) (h:nle (List.length l) 90000=true):f0 l lim=bm (dF lim l):=loop l lim (cn h) 100000 0 (by have:=cn h; omega) (by omega)
theorem ok:CtxOk Try.prog X:=aU tab spN dpN
theorem okM:MOk Try.prog X:=fun g sp h=>by cases h
theorem spec (l:List Int) (lim:Int) (h:(nle (List.length l) 90000)=true):az Try.prog E 37 [(.lst .int l),(.int .i64 lim)] (.bool (dF lim l)) [] :=
  aq ok okM Try.call37 Try.func37 (by kernel_rfl) (by kernel_rfl) (by kernel_rfl) (by show 2≤35; decide) (by decide) (by rfl) ((run l lim).trans (f0_eq l lim h))
noncomputable def sp:Sp U El:=fun args k=>match args with
  | [.lst .int l,.int .i64 lim]=>chk (nle (List.length l) 90000) (k (.bool (dF lim l)) [])
  | _=>none
theorem spOk:SpOk Try.prog E 37 sp where
  det:=fun vs=>by
    unfold sp
    split
    · exact bz _ _ _
    · exact ⟨none,fun _=>rfl⟩
  ok:=fun vs k r h=>by
    unfold sp at h
    split at h
    · obtain ⟨h1, h2⟩ := ab h
      exact ⟨_,_,spec _ _ h1,h2⟩
    · cases h
end ascending
namespace rascends
noncomputable def bd:Code:=(Try.f40.body).getD .skip
noncomputable def X:Ctx U El:=⟨E,tds,zeros,eqs,aG [],100000,41,aD [],fun _=>none⟩
noncomputable def nmR:Norm U:=⟨[],[4],[],[],[],[],[]⟩
noncomputable def RR:ae U El:=fun st=>aM nmR st (aK [4] [])
noncomputable def nm1:Norm U:=⟨[],[],[],[],[],[],[]⟩
noncomputable def nm2:Norm U:=⟨[],[0,1,5],[],[],[],[],[]⟩
noncomputable def nm3:Norm U:=⟨[],[0,1,5],[],[],[],[],[]⟩
abbrev Y1:=R
abbrev Y2:=(List Int)→Int→Int→R
abbrev Y3:=(List Int)→Int→Int→R
noncomputable def fr0 (l:List Int) (lim:Int):St U El:=⟨[(0,(.lst .int l)),(1,(.int .i64 lim))],[]⟩
noncomputable def fr1:St U El:=⟨[],[]⟩
noncomputable def fr2 (l0:List Int) (aA:Int) (i5:Int):St U El:=⟨[(0,(.lst .int l0)),(1,(.int .i64 aA)),(5,(.int .i64 i5))],[]⟩
noncomputable def fr3 (l0:List Int) (aA:Int) (i5:Int):St U El:=⟨[(0,(.lst .int l0)),(1,(.int .i64 aA)),(5,(.int .i64 i5))],[]⟩
noncomputable def sh0 (l:List Int) (lim:Int) (k2:Y2):R :=
  k2 l lim (0:Int)
noncomputable def sh1:R :=
  some ((.bool true),[])
noncomputable def sh2 (l0:List Int) (aA:Int) (i5:Int) (k1:Y1) (k3:Y3):R :=
  ah (ilt i5 (Int.ofNat (List.length l0))) (chk (inb i5 (List.length l0)) (ah (ilt (List.getD l0 (Int.toNat i5) d_int) (0:Int)) (some ((.bool false),[])) (chk (inb i5 (List.length l0)) (ah (ile aA (List.getD l0 (Int.toNat i5) d_int)) (some ((.bool false),[])) (ah (ilt (0:Int) i5) (chk (inb i5 (List.length l0)) (chk (inb (IntKind.wrap .i64 (i5 - (1:Int))) (List.length l0)) (ah (ile (List.getD l0 (Int.toNat i5) d_int) (List.getD l0 (Int.toNat (IntKind.wrap .i64 (i5 - (1:Int)))) d_int)) (some ((.bool false),[])) (k3 l0 aA i5)))) (k3 l0 aA i5)))))) (k1)
noncomputable def sh3 (l0:List Int) (aA:Int) (i5:Int) (k2:Y2):R :=
  k2 l0 aA (IntKind.wrap .i64 (i5+(1:Int)))
noncomputable def it2 (Kb1:ae U El) (n:Nat):ae U El:=bL nm2 (fun st' K'=>ak X (cdp [1,0,1,0,0] bd) (.seq none .d (.seq (some nm3) .d .d)) st' K' (aw 0 (ap nm1 Kb1) (fun _ _=>none)) RR) n
noncomputable def ct1:ae U El:=fun st=>ak X (cdp [1,1] bd) .d st RR (fun _ _=>none) RR
noncomputable def ct3 (Kb1 Kb2:ae U El):ae U El:=fun st=>ak X (cdp [1,0,1,0,0,1,1] bd) .d st (ap nm2 Kb2) (aw 0 (ap nm1 Kb1) (fun _ _=>none)) RR
theorem P0 (l lim):ak X (cdp [] bd) (.seq none .d (.seq (some nm1) (.seq none .d (.block (.loop nm2 (.seq none .d (.seq (some nm3) .d .d))))) .d)) (fr0 l lim) RR (fun _ _=>none) RR=sh0 l lim (fun y0 y1 y2=>(hid (it2 (hid ct1) 100000)) (fr2 y0 y1 y2)):=by kernel_rfl
theorem P1:ct1 (fr1)=sh1:=by kernel_rfl
theorem P2 (l0 aA i5) (Kb1 Kb2:ae U El):ak X (cdp [1,0,1,0,0] bd) (.seq none .d (.seq (some nm3) .d .d)) (fr2 l0 aA i5) (ap nm2 Kb2) (aw 0 (ap nm1 Kb1) (fun _ _=>none)) RR=sh2 l0 aA i5 (Kb1 (fr1)) (fun y0 y1 y2=>(hid (ct3 Kb1 Kb2)) (fr3 y0 y1 y2)):=by kernel_rfl
theorem P3 (l0 aA i5) (Kb1 Kb2:ae U El):ct3 Kb1 Kb2 (fr3 l0 aA i5)=sh3 l0 aA i5 (fun y0 y1 y2=>Kb2 (fr2 y0 y1 y2)):=by kernel_rfl
noncomputable def f1:R:=sh1
noncomputable def f3 (k2:Y2) (l0:List Int) (aA:Int) (i5:Int):R:=sh3 l0 aA i5 k2
noncomputable def f2:Nat→Y2
  | 0=>fun _ _ _=>none
  | n+1=>fun l0 aA i5=>sh2 l0 aA i5 f1 (f3 (f2 n))
noncomputable def f0 (l:List Int) (lim:Int):R:=sh0 l lim (f2 100000)
theorem T1:(hid ct1) (fr1)=f1:=by
  refine (congrFun (am _) _).trans <| (P1).trans ?_
  show _=sh1
  rfl
theorem T3 (KL2:ae U El) (k2:Y2) (h2:∀ l0 aA i5,KL2 (fr2 l0 aA i5)=k2 l0 aA i5) (l0 aA i5):(hid (ct3 (hid ct1) KL2)) (fr3 l0 aA i5)=f3 k2 l0 aA i5:=by
  refine (congrFun (am _) _).trans <| (P3 l0 aA i5 (hid ct1) KL2).trans ?_
  show _=sh3 l0 aA i5 k2
  simp only [h2]
theorem T2:∀ (n:Nat),∀ l0 aA i5,it2 (hid ct1) n (fr2 l0 aA i5)=f2 n l0 aA i5:=by
  intro n
  induction n with
  | zero=>intros; rfl
  | succ n ih =>
    intro l0 aA i5
    refine (P2 l0 aA i5 (hid ct1) (it2 (hid ct1) n)).trans ?_
    show _=sh2 l0 aA i5 f1 (f3 (f2 n))
    simp only [T1,T3 (it2 (hid ct1) n) (f2 n) ih]
theorem H2 (l0 aA i5):hid (it2 (hid ct1) 100000) (fr2 l0 aA i5)=f2 100000 l0 aA i5:=(congrFun (am _) _).trans (T2 100000 l0 aA i5)
theorem T0 (l lim):ak X bd (.seq none .d (.seq (some nm1) (.seq none .d (.block (.loop nm2 (.seq none .d (.seq (some nm3) .d .d))))) .d)) (fr0 l lim) RR (fun _ _=>none) RR=f0 l lim:=by
  refine (P0 l lim).trans ?_
  show _=sh0 l lim (f2 100000)
  simp only [H2]
theorem run (l lim):bg X bd (.seq none .d (.seq (some nm1) (.seq none .d (.block (.loop nm2 (.seq none .d (.seq (some nm3) .d .d))))) .d)) nmR [4] [] [(.lst .int l),(.int .i64 lim)]=f0 l lim:=T0 l lim
theorem loop (l : List Int) (lim : Int) (hl : l.length ≤ 90000) : ∀ (n i : Nat), l.length < n + i → i ≤ l.length → f2 n l lim (i : Int) = bm (jG (fun i x => !(kX lim l i x)) i (l.drop i)) := by
  intro n
  induction n with
  | zero=>intro i h1 h2; omega
  | succ n ih =>
    intro i h1 h2
    show sh2 l lim (i:Int) f1 (f3 (f2 n))=_
    unfold sh2
    by_cases hi:i < l.length
    · have e : f3 (f2 n) l lim (i : Int) = bm (jG (fun i x => !(kX lim l i x)) (i + 1) (l.drop (i + 1))) := by
        show f2 n l lim (IntKind.wrap .i64 ((i:Int)+1))=_
        rw [bo i (by omega)]
        exact ih (i+1) (by omega) hi
      rw [bw (by simp; omega),aZ hi,ac,al hi,e,bl hi]
      simp only [jG,kX,cH,cS]
      by_cases h0:i=0
      · subst h0
        rw [show ilt 0 (((0:Nat):Int))=false from bp (by simp)]
        cases ilt l[0] 0<;>cases ile lim l[0]<;>rfl
      · rw [bw (show (0 : Int) < (i : Int) by omega), ry i (by omega) (by omega), aZ (show i - 1 < l.length by omega), ac]
        cases ilt l[i] 0<;>cases ile lim l[i]<;>cases ile l[i] (List.getD l (i - 1) d_int)<;>rfl
    · have : i = l.length := by omega
      subst this
      rw [bp (by simp),List.drop_length]
      rfl
theorem f0_eq (l:List Int) (lim:Int) (h:nle (List.length l) 90000=true):f0 l lim=bm (dF lim l):=loop l lim (cn h) 100000 0 (by have:=cn h; omega) (by omega)
theorem ok:CtxOk Try.prog X:=aU tab spN dpN
theorem okM:MOk Try.prog X:=fun g sp h=>by cases h
theorem spec (l:List Int) (lim:Int) (h:(nle (List.length l) 90000)=true):az Try.prog E 40 [(.lst .int l),(.int .i64 lim)] (.bool (dF lim l)) [] :=
  aq ok okM Try.call40 Try.func40 (by kernel_rfl) (by kernel_rfl) (by kernel_rfl) (by show 2≤41; decide) (by decide) (by rfl) ((run l lim).trans (f0_eq l lim h))
noncomputable def sp:Sp U El:=fun args k=>match args with
  | [.lst .int l,.int .i64 lim]=>chk (nle (List.length l) 90000) (k (.bool (dF lim l)) [])
  | _=>none
theorem spOk:SpOk Try.prog E 40 sp where
  det:=fun vs=>by
    unfold sp
    split
    · exact bz _ _ _
    · exact ⟨none,fun _=>rfl⟩
  ok:=fun vs k r h=>by
    unfold sp at h
    split at h
    · obtain ⟨h1, h2⟩ := ab h
      exact ⟨_,_,spec _ _ h1,h2⟩
    · cases h
end rascends
namespace rhas
noncomputable def bd:Code:=(Try.f64.body).getD .skip
noncomputable def X:Ctx U El:=⟨E,tds,zeros,eqs,aG [],100000,18,aD [],fun _=>none⟩
noncomputable def nmR:Norm U:=⟨[],[4],[],[],[],[],[]⟩
noncomputable def RR:ae U El:=fun st=>aM nmR st (aK [4] [])
noncomputable def nm1:Norm U:=⟨[],[],[],[],[],[],[]⟩
noncomputable def nm2:Norm U:=⟨[],[0,1,5],[],[],[],[],[]⟩
abbrev Y1:=R
abbrev Y2:=(List Int)→Int→Int→R
noncomputable def fr0 (l:List Int) (n:Int):St U El:=⟨[(0,(.lst .int l)),(1,(.int .i64 n))],[]⟩
noncomputable def fr1:St U El:=⟨[],[]⟩
noncomputable def fr2 (l0:List Int) (n1:Int) (i5:Int):St U El:=⟨[(0,(.lst .int l0)),(1,(.int .i64 n1)),(5,(.int .i64 i5))],[]⟩
noncomputable def sh0 (l:List Int) (n:Int) (k2:Y2):R :=
  k2 l n (0:Int)
noncomputable def sh1:R :=
  some ((.bool false),[])
noncomputable def sh2 (l0:List Int) (n1:Int) (i5:Int) (k1:Y1) (k2:Y2):R :=
  ah (ilt i5 (Int.ofNat (List.length l0))) (chk (inb i5 (List.length l0)) (ah ((List.getD l0 (Int.toNat i5) d_int) == n1) (some ((.bool true),[])) (k2 l0 n1 (IntKind.wrap .i64 (i5+(1:Int)))))) (k1)
noncomputable def it2 (Kb1:ae U El) (n:Nat):ae U El:=bL nm2 (fun st' K'=>ak X (cdp [1,0,1,0,0] bd) .d st' K' (aw 0 (ap nm1 Kb1) (fun _ _=>none)) RR) n
noncomputable def ct1:ae U El:=fun st=>ak X (cdp [1,1] bd) .d st RR (fun _ _=>none) RR
theorem P0 (l n):ak X (cdp [] bd) (.seq none .d (.seq (some nm1) (.seq none .d (.block (.loop nm2 .d))) .d)) (fr0 l n) RR (fun _ _=>none) RR=sh0 l n (fun y0 y1 y2=>(hid (it2 (hid ct1) 100000)) (fr2 y0 y1 y2)):=by kernel_rfl
theorem P1:ct1 (fr1)=sh1:=by kernel_rfl
theorem P2 (l0 n1 i5) (Kb1 Kb2:ae U El):ak X (cdp [1,0,1,0,0] bd) .d (fr2 l0 n1 i5) (ap nm2 Kb2) (aw 0 (ap nm1 Kb1) (fun _ _=>none)) RR=sh2 l0 n1 i5 (Kb1 (fr1)) (fun y0 y1 y2=>Kb2 (fr2 y0 y1 y2)):=by kernel_rfl
noncomputable def f1:R:=sh1
noncomputable def f2:Nat→Y2
  | 0=>fun _ _ _=>none
  | n+1=>fun l0 n1 i5=>sh2 l0 n1 i5 f1 (f2 n)
noncomputable def f0 (l:List Int) (n:Int):R:=sh0 l n (f2 100000)
theorem T1:(hid ct1) (fr1)=f1:=by
  refine (congrFun (am _) _).trans <| (P1).trans ?_
  show _=sh1
  rfl
theorem T2:∀ (n:Nat),∀ l0 n1 i5,it2 (hid ct1) n (fr2 l0 n1 i5)=f2 n l0 n1 i5:=by
  intro n
  induction n with
  | zero=>intros; rfl
  | succ n ih =>
    intro l0 n1 i5
    refine (P2 l0 n1 i5 (hid ct1) (it2 (hid ct1) n)).trans ?_
    show _=sh2 l0 n1 i5 f1 (f2 n)
    simp only [T1,ih]
theorem H2 (l0 n1 i5):hid (it2 (hid ct1) 100000) (fr2 l0 n1 i5)=f2 100000 l0 n1 i5:=(congrFun (am _) _).trans (T2 100000 l0 n1 i5)
theorem T0 (l n):ak X bd (.seq none .d (.seq (some nm1) (.seq none .d (.block (.loop nm2 .d))) .d)) (fr0 l n) RR (fun _ _=>none) RR=f0 l n:=by
  refine (P0 l n).trans ?_
  show _=sh0 l n (f2 100000)
  simp only [H2]
theorem run (l n):bg X bd (.seq none .d (.seq (some nm1) (.seq none .d (.block (.loop nm2 .d))) .d)) nmR [4] [] [(.lst .int l),(.int .i64 n)]=f0 l n:=T0 l n
theorem loop (l:List Int) (x:Int) (hl:l.length≤90000):∀ (n i:Nat),l.length < n+i→i≤l.length→f2 n l x (i:Int)=bm (List.any (l.drop i) (bc x)):=by
  intro n
  induction n with
  | zero=>intro i h1 h2; omega
  | succ n ih =>
    intro i h1 h2
    show sh2 l x (i:Int) f1 (f2 n)=_
    unfold sh2
    by_cases hi:i < l.length
    · rw [bw (by simp; omega), aZ hi, ac, al hi, bo i (by omega), ih (i + 1) (by omega) hi, bl hi, List.any_cons]
      have e:(l[i] == x)=bc x l[i]:=by unfold bc; rw [Bool.eq_iff_iff,beq_iff_eq,beq_iff_eq]; exact ⟨Eq.symm,Eq.symm⟩
      rw [e]
      cases bc x l[i]<;>rfl
    · have : i = l.length := by omega
      subst this
      rw [bp (by simp),List.drop_length]
      rfl
theorem f0_eq (l:List Int) (x:Int) (h:nle (List.length l) 90000=true):f0 l x=bm (List.any l (bc x)):=loop l x (cn h) 100000 0 (by have:=cn h; omega) (by omega)
theorem ok:CtxOk Try.prog X:=aU tab spN dpN
theorem okM:MOk Try.prog X:=fun g sp h=>by cases h
theorem spec (l:List Int) (n:Int) (h:(nle (List.length l) 90000)=true):az Try.prog E 64 [(.lst .int l),(.int .i64 n)] (.bool (List.any l (bc n))) [] :=
  aq ok okM Try.call64 Try.func64 (by kernel_rfl) (by kernel_rfl) (by kernel_rfl) (by show 2≤18; decide) (by decide) (by rfl) ((run l n).trans (f0_eq l n h))
noncomputable def sp:Sp U El:=fun args k=>match args with
  | [.lst .int l,.int .i64 n]=>chk (nle (List.length l) 90000) (k (.bool (List.any l (bc n))) [])
  | _=>none
theorem spOk:SpOk Try.prog E 64 sp where
  det:=fun vs=>by
    unfold sp
    split
    · exact bz _ _ _
    · exact ⟨none,fun _=>rfl⟩
  ok:=fun vs k r h=>by
    unfold sp at h
    split at h
    · obtain ⟨h1, h2⟩ := ab h
      exact ⟨_,_,spec _ _ h1,h2⟩
    · cases h
end rhas
namespace idxI
noncomputable def bd:Code:=(Try.f56.body).getD .skip
noncomputable def X:Ctx U El:=⟨E,tds,zeros,eqs,aG [],100000,19,aD [],fun _=>none⟩
noncomputable def nmR:Norm U:=⟨[],[4],[],[],[],[],[]⟩
noncomputable def RR:ae U El:=fun st=>aM nmR st (aK [4] [])
noncomputable def nm1:Norm U:=⟨[],[],[],[],[],[],[]⟩
noncomputable def nm2:Norm U:=⟨[],[0,1,7,8],[],[],[],[],[]⟩
abbrev Y1:=R
abbrev Y2:=(List Int)→Int→Int→Int→R
noncomputable def fr0 (l:List Int) (x:Int):St U El:=⟨[(0,(.lst .int l)),(1,(.int .i64 x))],[]⟩
noncomputable def fr1:St U El:=⟨[],[]⟩
noncomputable def fr2 (s0:List Int) (v1:Int) (x7:Int) (x8:Int):St U El:=⟨[(0,(.lst .int s0)),(1,(.int .i64 v1)),(7,(.int .i64 x7)),(8,(.int .i64 x8))],[]⟩
noncomputable def sh0 (l:List Int) (x:Int) (k2:Y2):R :=
  k2 l x (Int.ofNat (List.length l)) (0:Int)
noncomputable def sh1:R :=
  some ((.int .i64 (-1:Int)),[])
noncomputable def sh2 (s0:List Int) (v1:Int) (x7:Int) (x8:Int) (k1:Y1) (k2:Y2):R :=
  ah (ilt x8 x7) (chk (inb x8 (List.length s0)) (ah (v1 == (List.getD s0 (Int.toNat x8) d_int)) (some ((.int .i64 x8),[])) (k2 s0 v1 x7 (IntKind.wrap .i64 (x8+(1:Int)))))) (k1)
noncomputable def it2 (Kb1:ae U El) (n:Nat):ae U El:=bL nm2 (fun st' K'=>ak X (cdp [1,0,1,0,0] bd) .d st' K' (aw 0 (ap nm1 Kb1) (fun _ _=>none)) RR) n
noncomputable def ct1:ae U El:=fun st=>ak X (cdp [1,1] bd) .d st RR (fun _ _=>none) RR
theorem P0 (l x):ak X (cdp [] bd) (.seq none .d (.seq (some nm1) (.seq none .d (.block (.loop nm2 .d))) .d)) (fr0 l x) RR (fun _ _=>none) RR=sh0 l x (fun y0 y1 y2 y3=>(hid (it2 (hid ct1) 100000)) (fr2 y0 y1 y2 y3)):=by kernel_rfl
theorem P1:ct1 (fr1)=sh1:=by kernel_rfl
theorem P2 (s0 v1 x7 x8) (Kb1 Kb2:ae U El):ak X (cdp [1,0,1,0,0] bd) .d (fr2 s0 v1 x7 x8) (ap nm2 Kb2) (aw 0 (ap nm1 Kb1) (fun _ _=>none)) RR=sh2 s0 v1 x7 x8 (Kb1 (fr1)) (fun y0 y1 y2 y3=>Kb2 (fr2 y0 y1 y2 y3)):=by kernel_rfl
noncomputable def f1:R:=sh1
noncomputable def f2:Nat→Y2
  | 0=>fun _ _ _ _=>none
  | n+1=>fun s0 v1 x7 x8=>sh2 s0 v1 x7 x8 f1 (f2 n)
noncomputable def f0 (l:List Int) (x:Int):R:=sh0 l x (f2 100000)
theorem T1:(hid ct1) (fr1)=f1:=by
  refine (congrFun (am _) _).trans <| (P1).trans ?_
  show _=sh1
  rfl
theorem T2:∀ (n:Nat),∀ s0 v1 x7 x8,it2 (hid ct1) n (fr2 s0 v1 x7 x8)=f2 n s0 v1 x7 x8:=by
  intro n
  induction n with
  | zero=>intros; rfl
  | succ n ih =>
    intro s0 v1 x7 x8
    refine (P2 s0 v1 x7 x8 (hid ct1) (it2 (hid ct1) n)).trans ?_
    show _=sh2 s0 v1 x7 x8 f1 (f2 n)
    simp only [T1,ih]
theorem H2 (s0 v1 x7 x8):hid (it2 (hid ct1) 100000) (fr2 s0 v1 x7 x8)=f2 100000 s0 v1 x7 x8:=(congrFun (am _) _).trans (T2 100000 s0 v1 x7 x8)
theorem T0 (l x):ak X bd (.seq none .d (.seq (some nm1) (.seq none .d (.block (.loop nm2 .d))) .d)) (fr0 l x) RR (fun _ _=>none) RR=f0 l x:=by
  refine (P0 l x).trans ?_
  show _=sh0 l x (f2 100000)
  simp only [H2]
theorem run (l x):bg X bd (.seq none .d (.seq (some nm1) (.seq none .d (.block (.loop nm2 .d))) .d)) nmR [4] [] [(.lst .int l),(.int .i64 x)]=f0 l x:=T0 l x
theorem f0_eq (l:List Int) (x:Int) (h:(nle (List.length l) 90000)=true):f0 l x=dK (bW (bc x) 0 l):=by
  have hl:=cn h
  refine (nR l (by omega) (fun n_ (_:Unit) i_=>f2 n_ l x (Int.ofNat l.length) i_) _ (fun _=>dK (-1)) (fun n_ u_ i_ hi_ => ?_) (fun n_ u_ => ?_) 100000 0 () (by omega) (by omega)).trans (kp (bc x) dK l 0)
  · show sh2 l x (Int.ofNat l.length) i_ f1 (f2 n_) = _
    unfold sh2
    rw [bw (by simp; omega),aZ hi_,ac,al hi_]
    rfl
  · show sh2 l x (Int.ofNat l.length) (l.length : Int) f1 (f2 n_) = _
    unfold sh2
    rw [bp (by simp)]
    rfl
theorem ok:CtxOk Try.prog X:=aU tab spN dpN
theorem okM:MOk Try.prog X:=fun g sp h=>by cases h
theorem spec (l:List Int) (x:Int) (h:(nle (List.length l) 90000)=true):az Try.prog E 56 [(.lst .int l),(.int .i64 x)] (.int .i64 (bW (bc x) 0 l)) [] :=
  aq ok okM Try.call56 Try.func56 (by kernel_rfl) (by kernel_rfl) (by kernel_rfl) (by show 2≤19; decide) (by decide) (by rfl) ((run l x).trans (f0_eq l x h))
noncomputable def sp:Sp U El:=fun args k=>match args with
  | [.lst .int l,.int .i64 x]=>chk (nle (List.length l) 90000) (k (.int .i64 (bW (bc x) 0 l)) [])
  | _=>none
theorem spOk:SpOk Try.prog E 56 sp where
  det:=fun vs=>by
    unfold sp
    split
    · exact bz _ _ _
    · exact ⟨none,fun _=>rfl⟩
  ok:=fun vs k r h=>by
    unfold sp at h
    split at h
    · obtain ⟨h1, h2⟩ := ab h
      exact ⟨_,_,spec _ _ h1,h2⟩
    · cases h
end idxI
namespace hasI
noncomputable def bd:Code:=(Try.f23.body).getD .skip
noncomputable def X:Ctx U El:=⟨E,tds,zeros,eqs,aG [(56,idxI.sp)],100000,9,aD [],fun _=>none⟩
noncomputable def nmR:Norm U:=⟨[],[4],[],[],[],[],[]⟩
noncomputable def RR:ae U El:=fun st=>aM nmR st (aK [4] [])
noncomputable def fr0 (l:List Int) (x:Int):St U El:=⟨[(0,(.lst .int l)),(1,(.int .i64 x))],[]⟩
noncomputable def sh0 (l:List Int) (x:Int):R :=
  chk (nle (List.length l) 90000) (some ((.bool (ile (0:Int) (bW (bc x) 0 l))),[]))
theorem P0 (l x):ak X (cdp [] bd) .d (fr0 l x) RR (fun _ _=>none) RR=sh0 l x:=by kernel_rfl
noncomputable def f0 (l:List Int) (x:Int):R:=sh0 l x
theorem T0 (l x):ak X bd .d (fr0 l x) RR (fun _ _=>none) RR=f0 l x:=by
  refine (P0 l x).trans ?_
  show _=sh0 l x
  rfl
theorem run (l x):bg X bd .d nmR [4] [] [(.lst .int l),(.int .i64 x)]=f0 l x:=T0 l x
theorem f0_eq (l:List Int) (x:Int) (h:(nle (List.length l) 90000)=true):f0 l x=bm (List.any l (bc x)):=by
  show sh0 l x=_
  unfold sh0
  rw [h,← fB (bc x) l 0]
  rfl
theorem ok:CtxOk Try.prog X:=aU tab (spC idxI.spOk spN) dpN
theorem okM:MOk Try.prog X:=fun g sp h=>by cases h
theorem spec (l:List Int) (x:Int) (h:(nle (List.length l) 90000)=true):az Try.prog E 23 [(.lst .int l),(.int .i64 x)] (.bool (List.any l (bc x))) [] :=
  aq ok okM Try.call23 Try.func23 (by kernel_rfl) (by kernel_rfl) (by kernel_rfl) (by show 2≤9; decide) (by decide) (by rfl) ((run l x).trans (f0_eq l x h))
noncomputable def sp:Sp U El:=fun args k=>match args with
  | [.lst .int l,.int .i64 x]=>chk (nle (List.length l) 90000) (k (.bool (List.any l (bc x))) [])
  | _=>none
theorem spOk:SpOk Try.prog E 23 sp where
  det:=fun vs=>by
    unfold sp
    split
    · exact bz _ _ _
    · exact ⟨none,fun _=>rfl⟩
  ok:=fun vs k r h=>by
    unfold sp at h
    split at h
    · obtain ⟨h1, h2⟩ := ab h
      exact ⟨_,_,spec _ _ h1,h2⟩
    · cases h
end hasI
noncomputable def qX (v:AV U El) (dn:List Bool):R:=some (v,[(1000000000,.box 1000000000 [.ful 1000000001]),(1000000001,.rows .bool dn)])
namespace ord1
noncomputable def bd:Code:=(Try.f69.body).getD .skip
noncomputable def X:Ctx U El:=⟨E,tds,zeros,eqs,aG [],100000,9,aD [],fun _=>none⟩
noncomputable def nmR:Norm U:=⟨[],[3],[1000000000,1000000001],[],[(1000000000,0,.bool,1000000001)],[],[]⟩
noncomputable def RR:ae U El:=fun st=>aM nmR st (dI [3])
noncomputable def fr0 (a:Int) (dn:List Bool):St U El:=⟨[(0,(.int .i64 a)),(1,(.ptr 1000000000 0))],[(1000000000,(.box 1000000000 [(.ful 1000000001)])),(1000000001,(.rows .bool dn))]⟩
noncomputable def sh0 (a:Int) (dn:List Bool):R :=
  chk (inb a (List.length dn)) (chk (nlt (Int.toNat a) (List.length dn)) (some ((.bool (!(List.getD dn (Int.toNat a) d_bool))),[(1000000000,(.box 1000000000 [(.ful 1000000001)])),(1000000001,(.rows .bool dn))])))
theorem P0 (a dn):ak X (cdp [] bd) .d (fr0 a dn) RR (fun _ _=>none) RR=sh0 a dn:=by kernel_rfl
noncomputable def f0 (a:Int) (dn:List Bool):R:=sh0 a dn
theorem T0 (a dn):ak X bd .d (fr0 a dn) RR (fun _ _=>none) RR=f0 a dn:=by
  refine (P0 a dn).trans ?_
  show _=sh0 a dn
  rfl
theorem run (a dn):jy X bd .d nmR [3] [(1000000000,(.box 1000000000 [(.ful 1000000001)])),(1000000001,(.rows .bool dn))] [(.int .i64 a),(.ptr 1000000000 0)]=f0 a dn:=T0 a dn
theorem f0_eq (a:Int) (dn:List Bool) (h:inb a (List.length dn)=true):f0 a dn=qX (.bool (aW dn a)) dn:=by
  show sh0 a dn=_
  unfold sh0
  have h1:Int.toNat a < dn.length:=by
    simp only [inb,Bool.and_eq_true] at h
    have h1:=b7 h.1; have h2:=dJ h.2
    omega
  rw [h,eb h1]
  rfl
theorem ok:CtxOk Try.prog X:=aU tab spN dpN
theorem okM:MOk Try.prog X:=fun g sp h=>by cases h
theorem spec (a:Int) (dn:List Bool) (h:(inb a (List.length dn))=true):MCall Try.prog E 69 [(.int .i64 a),(.ptr 1000000000 0)] [(1000000000,(.box 1000000000 [(.ful 1000000001)])),(1000000001,(.rows .bool dn))] (.bool (aW dn a)) [(1000000000,(.box 1000000000 [(.ful 1000000001)])),(1000000001,(.rows .bool dn))] :=
  bG ok okM Try.func69 (by kernel_rfl) (by kernel_rfl) (by kernel_rfl) (by show 2≤9; decide) ((run a dn).trans (f0_eq a dn h))
noncomputable def sp:MSp U El:=fun args hs k=>match args,hs with
  | [.int .i64 a,.ptr q0 0],[(q1,.box q2 [.ful q3]),(q4,.rows .bool dn)]=>chk (Nat.beq q0 1000000000&&(Nat.beq q1 1000000000&&(Nat.beq q2 1000000000&&(Nat.beq q3 1000000001&&(Nat.beq q4 1000000001&&true))))) (chk (inb a (List.length dn)) (k (.bool (aW dn a)) [(1000000000,(.box 1000000000 [(.ful 1000000001)])),(1000000001,(.rows .bool dn))]))
  | _,_=>none
theorem spOk:cJ Try.prog E 69 sp:=⟨Try.call69,fun args hs k r h=>by
  unfold sp at h
  split at h
  · obtain ⟨hq, hA⟩ := ab h
    clear h
    simp only [Bool.and_eq_true] at hq
    obtain ⟨e0,e1,e2,e3,e4,_⟩:=hq
    cases Nat.eq_of_beq_eq_true e0
    cases Nat.eq_of_beq_eq_true e1
    cases Nat.eq_of_beq_eq_true e2
    cases Nat.eq_of_beq_eq_true e3
    cases Nat.eq_of_beq_eq_true e4
    obtain ⟨h1,hB⟩:=ab hA
    exact ⟨_,_,spec _ _ h1,hB⟩
  · cases h⟩
theorem spDet:∀ args hs,∃ oo:Option (AV U El×ar U El),∀ k,sp args hs k=oo.bind fun p=>k p.1 p.2:=fun args hs=>by
  unfold sp
  split
  · exact aO (aO ⟨some (_,_),fun _=>rfl⟩)
  · exact ⟨none,fun _=>rfl⟩
end ord1
namespace ordX
noncomputable def bd:Code:=(Try.f80.body).getD .skip
noncomputable def X:Ctx U El:=⟨E,tds,zeros,eqs,aG [],100000,19,aD [],cg [(69,(gz ord1.sp))]⟩
noncomputable def nmR:Norm U:=⟨[],[4],[1000000000,1000000001],[],[(1000000000,0,.bool,1000000001)],[],[]⟩
noncomputable def RR:ae U El:=fun st=>aM nmR st (dI [4])
noncomputable def nm1:Norm U:=⟨[],[],[1000000000,1000000001],[],[(1000000000,0,.bool,1000000001)],[],[]⟩
noncomputable def nm2:Norm U:=⟨[],[0,1,7,8],[1000000000,1000000001],[],[(1000000000,0,.bool,1000000001)],[],[]⟩
abbrev Y1:=(List Bool)→R
abbrev Y2:=(List Int)→Int→Int→(List Bool)→R
noncomputable def fr0 (l:List Int) (dn:List Bool):St U El:=⟨[(0,(.lst .int l)),(1,(.fn 69 [] [(.ptr 1000000000 0)]))],[(1000000000,(.box 1000000000 [(.ful 1000000001)])),(1000000001,(.rows .bool dn))]⟩
noncomputable def fr1 (bA:List Bool):St U El:=⟨[],[(1000000000,(.box 1000000000 [(.ful 1000000001)])),(1000000001,(.rows .bool bA))]⟩
noncomputable def fr2 (s0:List Int) (x7:Int) (x8:Int) (bA:List Bool):St U El:=⟨[(0,(.lst .int s0)),(1,(.fn 69 [] [(.ptr 1000000000 0)])),(7,(.int .i64 x7)),(8,(.int .i64 x8))],[(1000000000,(.box 1000000000 [(.ful 1000000001)])),(1000000001,(.rows .bool bA))]⟩
noncomputable def sh0 (l:List Int) (dn:List Bool) (k2:Y2):R :=
  k2 l (Int.ofNat (List.length l)) (0:Int) dn
noncomputable def sh1 (bA:List Bool):R :=
  some ((.int .i64 (-1:Int)),[(1000000000,(.box 1000000000 [(.ful 1000000001)])),(1000000001,(.rows .bool bA))])
noncomputable def sh2 (s0:List Int) (x7:Int) (x8:Int) (bA:List Bool) (k1:Y1) (k2:Y2):R :=
  ah (ilt x8 x7) (chk (inb x8 (List.length s0)) (chk (inb (List.getD s0 (Int.toNat x8) d_int) (List.length bA)) (ah (aW bA (List.getD s0 (Int.toNat x8) d_int)) (some ((.int .i64 x8),[(1000000000,(.box 1000000000 [(.ful 1000000001)])),(1000000001,(.rows .bool bA))])) (k2 s0 x7 (IntKind.wrap .i64 (x8+(1:Int))) bA)))) (k1 bA)
noncomputable def it2 (Kb1:ae U El) (n:Nat):ae U El:=bL nm2 (fun st' K'=>ak X (cdp [1,0,1,0,0] bd) .d st' K' (aw 0 (ap nm1 Kb1) (fun _ _=>none)) RR) n
noncomputable def ct1:ae U El:=fun st=>ak X (cdp [1,1] bd) .d st RR (fun _ _=>none) RR
theorem P0 (l dn):ak X (cdp [] bd) (.seq none .d (.seq (some nm1) (.seq none .d (.block (.loop nm2 .d))) .d)) (fr0 l dn) RR (fun _ _=>none) RR=sh0 l dn (fun y0 y1 y2 y3=>(hid (it2 (hid ct1) 100000)) (fr2 y0 y1 y2 y3)):=by kernel_rfl
theorem P1 (bA):ct1 (fr1 bA)=sh1 bA:=by kernel_rfl
theorem P2 (s0 x7 x8 bA) (Kb1 Kb2:ae U El):ak X (cdp [1,0,1,0,0] bd) .d (fr2 s0 x7 x8 bA) (ap nm2 Kb2) (aw 0 (ap nm1 Kb1) (fun _ _=>none)) RR=sh2 s0 x7 x8 bA (fun y0=>Kb1 (fr1 y0)) (fun y0 y1 y2 y3=>Kb2 (fr2 y0 y1 y2 y3)):=by kernel_rfl
noncomputable def f1 (bA:List Bool):R:=sh1 bA
noncomputable def f2:Nat→Y2
  | 0=>fun _ _ _ _=>none
  | n+1=>fun s0 x7 x8 bA=>sh2 s0 x7 x8 bA f1 (f2 n)
noncomputable def f0 (l:List Int) (dn:List Bool):R:=sh0 l dn (f2 100000)
theorem T1 (bA):(hid ct1) (fr1 bA)=f1 bA:=by
  refine (congrFun (am _) _).trans <| (P1 bA).trans ?_
  show _=sh1 bA
  rfl
theorem T2:∀ (n:Nat),∀ s0 x7 x8 bA,it2 (hid ct1) n (fr2 s0 x7 x8 bA)=f2 n s0 x7 x8 bA:=by
  intro n
  induction n with
  | zero=>intros; rfl
  | succ n ih =>
    intro s0 x7 x8 bA
    refine (P2 s0 x7 x8 bA (hid ct1) (it2 (hid ct1) n)).trans ?_
    show _=sh2 s0 x7 x8 bA f1 (f2 n)
    simp only [T1,ih]
theorem H2 (s0 x7 x8 bA):hid (it2 (hid ct1) 100000) (fr2 s0 x7 x8 bA)=f2 100000 s0 x7 x8 bA:=(congrFun (am _) _).trans (T2 100000 s0 x7 x8 bA)
theorem T0 (l dn):ak X bd (.seq none .d (.seq (some nm1) (.seq none .d (.block (.loop nm2 .d))) .d)) (fr0 l dn) RR (fun _ _=>none) RR=f0 l dn:=by
  refine (P0 l dn).trans ?_
  show _=sh0 l dn (f2 100000)
  simp only [H2]
theorem run (l dn):jy X bd (.seq none .d (.seq (some nm1) (.seq none .d (.block (.loop nm2 .d))) .d)) nmR [4] [(1000000000,(.box 1000000000 [(.ful 1000000001)])),(1000000001,(.rows .bool dn))] [(.lst .int l),(.fn 69 [] [(.ptr 1000000000 0)])]=f0 l dn:=T0 l dn
theorem loop (l:List Int) (dn:List Bool) (hl:l.length≤90000) (hd:∀ a∈l,inb a dn.length=true):∀ (n i:Nat),l.length < n+i→i≤l.length→f2 n l (Int.ofNat l.length) (i:Int) dn=qX (.int .i64 (bW (aW dn) i (l.drop i))) dn:=by
  intro n
  induction n with
  | zero=>intro i h1 h2; omega
  | succ n ih =>
    intro i h1 h2
    show sh2 l (Int.ofNat l.length) (i:Int) dn f1 (f2 n)=_
    unfold sh2
    by_cases hi:i < l.length
    · rw [bw (by simp; omega), aZ hi, ac, al hi, hd _ (List.getElem_mem hi), bo i (by omega), ih (i + 1) (by omega) hi, bl hi]
      simp only [bW]
      cases aW dn l[i]<;>rfl
    · have : i = l.length := by omega
      subst this
      rw [bp (by simp),List.drop_length]
      rfl
theorem f0_eq (l:List Int) (dn:List Bool) (h:(nle (List.length l) 90000&&List.all l (fun a=>inb a (List.length dn)))=true):f0 l dn=qX (.int .i64 (bW (aW dn) 0 l)) dn:=by
  simp only [Bool.and_eq_true] at h
  exact loop l dn (cn h.1) (List.all_eq_true.1 h.2) 100000 0 (by have:=cn h.1; omega) (by omega)
theorem ok:CtxOk Try.prog X:=aU tab spN dpN
theorem okM:MOk Try.prog X:=bF _ (mpC (cF ok ord1.spOk) mpN)
theorem spec (l:List Int) (dn:List Bool) (h:((nle (List.length l) 90000&&List.all l (fun a=>inb a (List.length dn))))=true):MCall Try.prog E 80 [(.lst .int l),(.fn 69 [] [(.ptr 1000000000 0)])] [(1000000000,(.box 1000000000 [(.ful 1000000001)])),(1000000001,(.rows .bool dn))] (.int .i64 (bW (aW dn) 0 l)) [(1000000000,(.box 1000000000 [(.ful 1000000001)])),(1000000001,(.rows .bool dn))] :=
  bG ok okM Try.func80 (by kernel_rfl) (by kernel_rfl) (by kernel_rfl) (by show 2≤19; decide) ((run l dn).trans (f0_eq l dn h))
noncomputable def sp:MSp U El:=fun args hs k=>match args,hs with
  | [.lst .int l,.fn 69 [] [.ptr q0 0]],[(q1,.box q2 [.ful q3]),(q4,.rows .bool dn)]=>chk (Nat.beq q0 1000000000&&(Nat.beq q1 1000000000&&(Nat.beq q2 1000000000&&(Nat.beq q3 1000000001&&(Nat.beq q4 1000000001&&true))))) (chk ((nle (List.length l) 90000&&List.all l (fun a=>inb a (List.length dn)))) (k (.int .i64 (bW (aW dn) 0 l)) [(1000000000,(.box 1000000000 [(.ful 1000000001)])),(1000000001,(.rows .bool dn))]))
  | _,_=>none
theorem spOk:cJ Try.prog E 80 sp:=⟨Try.call80,fun args hs k r h=>by
  unfold sp at h
  split at h
  · obtain ⟨hq, hA⟩ := ab h
    clear h
    simp only [Bool.and_eq_true] at hq
    obtain ⟨e0,e1,e2,e3,e4,_⟩:=hq
    cases Nat.eq_of_beq_eq_true e0
    cases Nat.eq_of_beq_eq_true e1
    cases Nat.eq_of_beq_eq_true e2
    cases Nat.eq_of_beq_eq_true e3
    cases Nat.eq_of_beq_eq_true e4
    obtain ⟨h1,hB⟩:=ab hA
    exact ⟨_,_,spec _ _ h1,hB⟩
  · cases h⟩
theorem spDet:∀ args hs,∃ oo:Option (AV U El×ar U El),∀ k,sp args hs k=oo.bind fun p=>k p.1 p.2:=fun args hs=>by
  unfold sp
  split
  · exact aO (aO ⟨some (_,_),fun _=>rfl⟩)
  · exact ⟨none,fun _=>rfl⟩
end ordX
namespace ordC
noncomputable def bd:Code:=(Try.f68.body).getD .skip
noncomputable def X:Ctx U El:=⟨E,tds,zeros,eqs,aG [],100000,9,aD [],cg [(80,(gz ordX.sp))]⟩
noncomputable def nmR:Norm U:=⟨[],[4],[1000000000,1000000001],[],[(1000000000,0,.bool,1000000001)],[],[]⟩
noncomputable def RR:ae U El:=fun st=>aM nmR st (dI [4])
noncomputable def fr0 (l:List Int) (dn:List Bool):St U El:=⟨[(0,(.lst .int l)),(1,(.fn 69 [] [(.ptr 1000000000 0)]))],[(1000000000,(.box 1000000000 [(.ful 1000000001)])),(1000000001,(.rows .bool dn))]⟩
noncomputable def sh0 (l:List Int) (dn:List Bool):R :=
  chk ((nle (List.length l) 90000&&List.all l (fun a=>inb a (List.length dn)))) (some ((.bool (ile (0:Int) (bW (aW dn) 0 l))),[(1000000000,(.box 1000000000 [(.ful 1000000001)])),(1000000001,(.rows .bool dn))]))
theorem P0 (l dn):ak X (cdp [] bd) .d (fr0 l dn) RR (fun _ _=>none) RR=sh0 l dn:=by kernel_rfl
noncomputable def f0 (l:List Int) (dn:List Bool):R:=sh0 l dn
theorem T0 (l dn):ak X bd .d (fr0 l dn) RR (fun _ _=>none) RR=f0 l dn:=by
  refine (P0 l dn).trans ?_
  show _=sh0 l dn
  rfl
theorem run (l dn):jy X bd .d nmR [4] [(1000000000,(.box 1000000000 [(.ful 1000000001)])),(1000000001,(.rows .bool dn))] [(.lst .int l),(.fn 69 [] [(.ptr 1000000000 0)])]=f0 l dn:=T0 l dn
theorem f0_eq (l:List Int) (dn:List Bool) (h:(nle (List.length l) 90000&&List.all l (fun a=>inb a (List.length dn)))=true):f0 l dn=qX (.bool (List.any l (aW dn))) dn:=by
  show sh0 l dn=_
  unfold sh0
  rw [h,← fB (aW dn) l 0]
  rfl
theorem ok:CtxOk Try.prog X:=aU tab spN dpN
theorem okM:MOk Try.prog X:=bF _ (mpC (cF ok ordX.spOk) mpN)
theorem spec (l:List Int) (dn:List Bool) (h:((nle (List.length l) 90000&&List.all l (fun a=>inb a (List.length dn))))=true):MCall Try.prog E 68 [(.lst .int l),(.fn 69 [] [(.ptr 1000000000 0)])] [(1000000000,(.box 1000000000 [(.ful 1000000001)])),(1000000001,(.rows .bool dn))] (.bool (List.any l (aW dn))) [(1000000000,(.box 1000000000 [(.ful 1000000001)])),(1000000001,(.rows .bool dn))] :=
  bG ok okM Try.func68 (by kernel_rfl) (by kernel_rfl) (by kernel_rfl) (by show 2≤9; decide) ((run l dn).trans (f0_eq l dn h))
noncomputable def sp:MSp U El:=fun args hs k=>match args,hs with
  | [.lst .int l,.fn 69 [] [.ptr q0 0]],[(q1,.box q2 [.ful q3]),(q4,.rows .bool dn)]=>chk (Nat.beq q0 1000000000&&(Nat.beq q1 1000000000&&(Nat.beq q2 1000000000&&(Nat.beq q3 1000000001&&(Nat.beq q4 1000000001&&true))))) (chk ((nle (List.length l) 90000&&List.all l (fun a=>inb a (List.length dn)))) (k (.bool (List.any l (aW dn))) [(1000000000,(.box 1000000000 [(.ful 1000000001)])),(1000000001,(.rows .bool dn))]))
  | _,_=>none
theorem spOk:cJ Try.prog E 68 sp:=⟨Try.call68,fun args hs k r h=>by
  unfold sp at h
  split at h
  · obtain ⟨hq, hA⟩ := ab h
    clear h
    simp only [Bool.and_eq_true] at hq
    obtain ⟨e0,e1,e2,e3,e4,_⟩:=hq
    cases Nat.eq_of_beq_eq_true e0
    cases Nat.eq_of_beq_eq_true e1
    cases Nat.eq_of_beq_eq_true e2
    cases Nat.eq_of_beq_eq_true e3
    cases Nat.eq_of_beq_eq_true e4
    obtain ⟨h1,hB⟩:=ab hA
    exact ⟨_,_,spec _ _ h1,hB⟩
  · cases h⟩
theorem spDet:∀ args hs,∃ oo:Option (AV U El×ar U El),∀ k,sp args hs k=oo.bind fun p=>k p.1 p.2:=fun args hs=>by
  unfold sp
  split
  · exact aO (aO ⟨some (_,_),fun _=>rfl⟩)
  · exact ⟨none,fun _=>rfl⟩
end ordC
end Go.Proofs.Ythdklallcljhlaa

namespace Go.Proofs.Ythdklallcljhlaa
set_option linter.unusedSectionVars false
set_option linter.unusedSimpArgs false
set_option linter.unusedVariables false
set_option maxRecDepth 100000
theorem cX {l:List Work} (h:okO l=true):l.length≤90000∧∀ w∈l,w.wa.length≤90000∧∀ a∈w.wa,inb a l.length=true:=by
  unfold okO at h
  simp only [Bool.and_eq_true] at h
  refine ⟨cn h.1,fun w hw => ?_⟩
  have:=List.all_eq_true.1 h.2 w hw
  simp only [Bool.and_eq_true] at this
  exact ⟨cn this.1,List.all_eq_true.1 this.2⟩
namespace rready
noncomputable def bd:Code:=(Try.f41.body).getD .skip
noncomputable def X:Ctx U El:=⟨E,tds,zeros,eqs,aG [],100000,47,aD [],fun _=>none⟩
noncomputable def nmR:Norm U:=⟨[],[6],[],[],[],[],[]⟩
noncomputable def RR:ae U El:=fun st=>aM nmR st (aK [6] [])
noncomputable def nm1:Norm U:=⟨[],[],[],[],[],[],[]⟩
noncomputable def nm2:Norm U:=⟨[],[0,1,7],[],[],[],[],[]⟩
noncomputable def nm3:Norm U:=⟨[],[0,1,7],[],[],[],[],[]⟩
noncomputable def nm4:Norm U:=⟨[],[0,1,7,8],[],[],[],[],[]⟩
noncomputable def nm5:Norm U:=⟨[],[0,1,7,8,9],[],[],[],[],[]⟩
noncomputable def nm6:Norm U:=⟨[],[0,1,7,8,9],[],[],[],[],[]⟩
abbrev Y1:=R
abbrev Y2:=(List Work)→(List Bool)→Int→R
abbrev Y3:=(List Work)→(List Bool)→Int→R
abbrev Y4:=(List Work)→(List Bool)→Int→Bool→R
abbrev Y5:=(List Work)→(List Bool)→Int→Bool→Int→R
abbrev Y6:=(List Work)→(List Bool)→Int→Bool→Int→R
noncomputable def fr0 (l:List Work) (dn:List Bool) (frm:Int):St U El:=⟨[(0,(.lst .work l)),(1,(.lst .bool dn)),(2,(.int .i64 frm))],[]⟩
noncomputable def fr1:St U El:=⟨[],[]⟩
noncomputable def fr2 (l0:List Work) (aA:List Bool) (i7:Int):St U El:=⟨[(0,(.lst .work l0)),(1,(.lst .bool aA)),(7,(.int .i64 i7))],[]⟩
noncomputable def fr3 (l0:List Work) (aA:List Bool) (i7:Int):St U El:=⟨[(0,(.lst .work l0)),(1,(.lst .bool aA)),(7,(.int .i64 i7))],[]⟩
noncomputable def fr4 (l0:List Work) (aA:List Bool) (i7:Int) (bA:Bool):St U El:=⟨[(0,(.lst .work l0)),(1,(.lst .bool aA)),(7,(.int .i64 i7)),(8,(.bool bA))],[]⟩
noncomputable def fr5 (l0:List Work) (aA:List Bool) (i7:Int) (bA:Bool) (cA:Int):St U El:=⟨[(0,(.lst .work l0)),(1,(.lst .bool aA)),(7,(.int .i64 i7)),(8,(.bool bA)),(9,(.int .i64 cA))],[]⟩
noncomputable def fr6 (l0:List Work) (aA:List Bool) (i7:Int) (bA:Bool) (cA:Int):St U El:=⟨[(0,(.lst .work l0)),(1,(.lst .bool aA)),(7,(.int .i64 i7)),(8,(.bool bA)),(9,(.int .i64 cA))],[]⟩
noncomputable def sh0 (l:List Work) (dn:List Bool) (frm:Int) (k2:Y2):R :=
  k2 l dn frm
noncomputable def sh1:R :=
  some ((.int .i64 (-1:Int)),[])
noncomputable def sh2 (l0:List Work) (aA:List Bool) (i7:Int) (k1:Y1) (k3:Y3) (k5:Y5):R :=
  ah (ilt i7 (Int.ofNat (List.length l0))) (chk (inb i7 (List.length aA)) (ah (List.getD aA (Int.toNat i7) d_bool) (k3 l0 aA i7) (k5 l0 aA i7 true (0:Int)))) (k1)
noncomputable def sh3 (l0:List Work) (aA:List Bool) (i7:Int) (k2:Y2):R :=
  k2 l0 aA (IntKind.wrap .i64 (i7+(1:Int)))
noncomputable def sh4 (l0:List Work) (aA:List Bool) (i7:Int) (bA:Bool) (k3:Y3):R :=
  ah bA (some ((.int .i64 i7),[])) (k3 l0 aA i7)
noncomputable def sh5 (l0:List Work) (aA:List Bool) (i7:Int) (bA:Bool) (cA:Int) (k4:Y4) (k6:Y6):R :=
  chk (inb i7 (List.length l0)) (ah (ilt cA (Int.ofNat (List.length ((List.getD l0 (Int.toNat i7) aa).wa)))) (ah bA (chk (inb i7 (List.length l0)) (chk (inb cA (List.length ((List.getD l0 (Int.toNat i7) aa).wa))) (chk (inb (List.getD ((List.getD l0 (Int.toNat i7) aa).wa) (Int.toNat cA) d_int) (List.length aA)) (k6 l0 aA i7 (List.getD aA (Int.toNat (List.getD ((List.getD l0 (Int.toNat i7) aa).wa) (Int.toNat cA) d_int)) d_bool) cA)))) (k6 l0 aA i7 false cA)) (k4 l0 aA i7 bA))
noncomputable def sh6 (l0:List Work) (aA:List Bool) (i7:Int) (bA:Bool) (cA:Int) (k5:Y5):R :=
  k5 l0 aA i7 bA (IntKind.wrap .i64 (cA+(1:Int)))
noncomputable def it2 (Kb1:ae U El) (n:Nat):ae U El:=bL nm2 (fun st' K'=>ak X (cdp [1,0,1,0,0] bd) (.seq none .d (.seq (some nm3) (.block (.seq none .d (.seq none .d (.seq (some nm4) (.seq none .d (.block (.loop nm5 (.seq none .d (.seq (some nm6) .d .d))))) .d)))) .d)) st' K' (aw 0 (ap nm1 Kb1) (fun _ _=>none)) RR) n
noncomputable def it5 (Kb1 Kb3 Kb4:ae U El) (n:Nat):ae U El:=bL nm5 (fun st' K'=>ak X (cdp [1,0,1,0,0,1,0,0,1,1,0,1,0,0] bd) (.seq none .d (.seq (some nm6) .d .d)) st' K' (aw 2 (ap nm4 Kb4) (aw 1 (ap nm3 Kb3) (aw 0 (ap nm1 Kb1) (fun _ _=>none)))) RR) n
noncomputable def ct1:ae U El:=fun st=>ak X (cdp [1,1] bd) .d st RR (fun _ _=>none) RR
noncomputable def ct3 (Kb1 Kb2:ae U El):ae U El:=fun st=>ak X (cdp [1,0,1,0,0,1,1] bd) .d st (ap nm2 Kb2) (aw 0 (ap nm1 Kb1) (fun _ _=>none)) RR
noncomputable def ct4 (Kb1 Kb3:ae U El):ae U El:=fun st=>ak X (cdp [1,0,1,0,0,1,0,0,1,1,1] bd) .d st (ap nm3 Kb3) (aw 1 (ap nm3 Kb3) (aw 0 (ap nm1 Kb1) (fun _ _=>none))) RR
noncomputable def ct6 (Kb1 Kb3 Kb4 Kb5:ae U El):ae U El:=fun st=>ak X (cdp [1,0,1,0,0,1,0,0,1,1,0,1,0,0,1,1] bd) .d st (ap nm5 Kb5) (aw 2 (ap nm4 Kb4) (aw 1 (ap nm3 Kb3) (aw 0 (ap nm1 Kb1) (fun _ _=>none)))) RR
theorem P0 (l dn frm):ak X (cdp [] bd) (.seq none .d (.seq (some nm1) (.seq none .d (.block (.loop nm2 (.seq none .d (.seq (some nm3) (.block (.seq none .d (.seq none .d (.seq (some nm4) (.seq none .d (.block (.loop nm5 (.seq none .d (.seq (some nm6) .d .d))))) .d)))) .d))))) .d)) (fr0 l dn frm) RR (fun _ _=>none) RR=sh0 l dn frm (fun y0 y1 y2=>(hid (it2 (hid ct1) 100000)) (fr2 y0 y1 y2)):=by kernel_rfl
theorem P1:ct1 (fr1)=sh1:=by kernel_rfl
theorem P2 (l0 aA i7) (Kb1 Kb2:ae U El):ak X (cdp [1,0,1,0,0] bd) (.seq none .d (.seq (some nm3) (.block (.seq none .d (.seq none .d (.seq (some nm4) (.seq none .d (.block (.loop nm5 (.seq none .d (.seq (some nm6) .d .d))))) .d)))) .d)) (fr2 l0 aA i7) (ap nm2 Kb2) (aw 0 (ap nm1 Kb1) (fun _ _=>none)) RR=sh2 l0 aA i7 (Kb1 (fr1)) (fun y0 y1 y2=>(hid (ct3 Kb1 Kb2)) (fr3 y0 y1 y2)) (fun y0 y1 y2 y3 y4=>(hid (it5 Kb1 (hid (ct3 Kb1 Kb2)) (hid (ct4 Kb1 (hid (ct3 Kb1 Kb2)))) 100000)) (fr5 y0 y1 y2 y3 y4)):=by kernel_rfl
theorem P3 (l0 aA i7) (Kb1 Kb2:ae U El):ct3 Kb1 Kb2 (fr3 l0 aA i7)=sh3 l0 aA i7 (fun y0 y1 y2=>Kb2 (fr2 y0 y1 y2)):=by kernel_rfl
theorem P4 (l0 aA i7 bA) (Kb1 Kb3:ae U El):ct4 Kb1 Kb3 (fr4 l0 aA i7 bA)=sh4 l0 aA i7 bA (fun y0 y1 y2=>Kb3 (fr3 y0 y1 y2)):=by kernel_rfl
theorem P5 (l0 aA i7 bA cA) (Kb1 Kb3 Kb4 Kb5:ae U El):ak X (cdp [1,0,1,0,0,1,0,0,1,1,0,1,0,0] bd) (.seq none .d (.seq (some nm6) .d .d)) (fr5 l0 aA i7 bA cA) (ap nm5 Kb5) (aw 2 (ap nm4 Kb4) (aw 1 (ap nm3 Kb3) (aw 0 (ap nm1 Kb1) (fun _ _=>none)))) RR=sh5 l0 aA i7 bA cA (fun y0 y1 y2 y3=>Kb4 (fr4 y0 y1 y2 y3)) (fun y0 y1 y2 y3 y4=>(hid (ct6 Kb1 Kb3 Kb4 Kb5)) (fr6 y0 y1 y2 y3 y4)):=by kernel_rfl
theorem P6 (l0 aA i7 bA cA) (Kb1 Kb3 Kb4 Kb5:ae U El):ct6 Kb1 Kb3 Kb4 Kb5 (fr6 l0 aA i7 bA cA)=sh6 l0 aA i7 bA cA (fun y0 y1 y2 y3 y4=>Kb5 (fr5 y0 y1 y2 y3 y4)):=by kernel_rfl
noncomputable def f1:R:=sh1
noncomputable def f3 (k2:Y2) (l0:List Work) (aA:List Bool) (i7:Int):R:=sh3 l0 aA i7 k2
noncomputable def f4 (k2:Y2) (l0:List Work) (aA:List Bool) (i7:Int) (bA:Bool):R:=sh4 l0 aA i7 bA (f3 k2)
noncomputable def f6 (k2:Y2) (k5:Y5) (l0:List Work) (aA:List Bool) (i7:Int) (bA:Bool) (cA:Int):R:=sh6 l0 aA i7 bA cA k5
noncomputable def f5 (k2:Y2):Nat→Y5
  | 0=>fun _ _ _ _ _=>none
  | n+1=>fun l0 aA i7 bA cA=>sh5 l0 aA i7 bA cA (f4 k2) (f6 k2 (f5 k2 n))
noncomputable def f2:Nat→Y2
  | 0=>fun _ _ _=>none
  | n+1=>fun l0 aA i7=>sh2 l0 aA i7 f1 (f3 (f2 n)) (f5 (f2 n) 100000)
noncomputable def f0 (l:List Work) (dn:List Bool) (frm:Int):R:=sh0 l dn frm (f2 100000)
theorem T1:(hid ct1) (fr1)=f1:=by
  refine (congrFun (am _) _).trans <| (P1).trans ?_
  show _=sh1
  rfl
theorem T3 (KL2:ae U El) (k2:Y2) (h2:∀ l0 aA i7,KL2 (fr2 l0 aA i7)=k2 l0 aA i7) (l0 aA i7):(hid (ct3 (hid ct1) KL2)) (fr3 l0 aA i7)=f3 k2 l0 aA i7:=by
  refine (congrFun (am _) _).trans <| (P3 l0 aA i7 (hid ct1) KL2).trans ?_
  show _=sh3 l0 aA i7 k2
  simp only [h2]
theorem T4 (KL2:ae U El) (k2:Y2) (h2:∀ l0 aA i7,KL2 (fr2 l0 aA i7)=k2 l0 aA i7) (l0 aA i7 bA):(hid (ct4 (hid ct1) (hid (ct3 (hid ct1) KL2)))) (fr4 l0 aA i7 bA)=f4 k2 l0 aA i7 bA:=by
  refine (congrFun (am _) _).trans <| (P4 l0 aA i7 bA (hid ct1) (hid (ct3 (hid ct1) KL2))).trans ?_
  show _=sh4 l0 aA i7 bA (f3 k2)
  simp only [T3 KL2 k2 h2]
theorem T6 (KL2:ae U El) (KL5:ae U El) (k2:Y2) (k5:Y5) (h2:∀ l0 aA i7,KL2 (fr2 l0 aA i7)=k2 l0 aA i7) (h5:∀ l0 aA i7 bA cA,KL5 (fr5 l0 aA i7 bA cA)=k5 l0 aA i7 bA cA) (l0 aA i7 bA cA):(hid (ct6 (hid ct1) (hid (ct3 (hid ct1) KL2)) (hid (ct4 (hid ct1) (hid (ct3 (hid ct1) KL2)))) KL5)) (fr6 l0 aA i7 bA cA)=f6 k2 k5 l0 aA i7 bA cA:=by
  refine (congrFun (am _) _).trans <| (P6 l0 aA i7 bA cA (hid ct1) (hid (ct3 (hid ct1) KL2)) (hid (ct4 (hid ct1) (hid (ct3 (hid ct1) KL2)))) KL5).trans ?_
  show _=sh6 l0 aA i7 bA cA k5
  simp only [h5]
theorem T5 (KL2:ae U El) (k2:Y2) (h2:∀ l0 aA i7,KL2 (fr2 l0 aA i7)=k2 l0 aA i7):∀ (n:Nat),∀ l0 aA i7 bA cA,it5 (hid ct1) (hid (ct3 (hid ct1) KL2)) (hid (ct4 (hid ct1) (hid (ct3 (hid ct1) KL2)))) n (fr5 l0 aA i7 bA cA)=f5 k2 n l0 aA i7 bA cA:=by
  intro n
  induction n with
  | zero=>intros; rfl
  | succ n ih =>
    intro l0 aA i7 bA cA
    refine (P5 l0 aA i7 bA cA (hid ct1) (hid (ct3 (hid ct1) KL2)) (hid (ct4 (hid ct1) (hid (ct3 (hid ct1) KL2)))) (it5 (hid ct1) (hid (ct3 (hid ct1) KL2)) (hid (ct4 (hid ct1) (hid (ct3 (hid ct1) KL2)))) n)).trans ?_
    show _=sh5 l0 aA i7 bA cA (f4 k2) (f6 k2 (f5 k2 n))
    simp only [T4 KL2 k2 h2,T6 KL2 (it5 (hid ct1) (hid (ct3 (hid ct1) KL2)) (hid (ct4 (hid ct1) (hid (ct3 (hid ct1) KL2)))) n) k2 (f5 k2 n) h2 ih]
theorem H5 (KL2:ae U El) (k2:Y2) (h2:∀ l0 aA i7,KL2 (fr2 l0 aA i7)=k2 l0 aA i7) (l0 aA i7 bA cA):hid (it5 (hid ct1) (hid (ct3 (hid ct1) KL2)) (hid (ct4 (hid ct1) (hid (ct3 (hid ct1) KL2)))) 100000) (fr5 l0 aA i7 bA cA)=f5 k2 100000 l0 aA i7 bA cA:=(congrFun (am _) _).trans (T5 KL2 k2 h2 100000 l0 aA i7 bA cA)
theorem T2:∀ (n:Nat),∀ l0 aA i7,it2 (hid ct1) n (fr2 l0 aA i7)=f2 n l0 aA i7:=by
  intro n
  induction n with
  | zero=>intros; rfl
  | succ n ih =>
    intro l0 aA i7
    refine (P2 l0 aA i7 (hid ct1) (it2 (hid ct1) n)).trans ?_
    show _=sh2 l0 aA i7 f1 (f3 (f2 n)) (f5 (f2 n) 100000)
    simp only [T1,T3 (it2 (hid ct1) n) (f2 n) ih,H5 (it2 (hid ct1) n) (f2 n) ih]
theorem H2 (l0 aA i7):hid (it2 (hid ct1) 100000) (fr2 l0 aA i7)=f2 100000 l0 aA i7:=(congrFun (am _) _).trans (T2 100000 l0 aA i7)
theorem T0 (l dn frm):ak X bd (.seq none .d (.seq (some nm1) (.seq none .d (.block (.loop nm2 (.seq none .d (.seq (some nm3) (.block (.seq none .d (.seq none .d (.seq (some nm4) (.seq none .d (.block (.loop nm5 (.seq none .d (.seq (some nm6) .d .d))))) .d)))) .d))))) .d)) (fr0 l dn frm) RR (fun _ _=>none) RR=f0 l dn frm:=by
  refine (P0 l dn frm).trans ?_
  show _=sh0 l dn frm (f2 100000)
  simp only [H2]
theorem run (l dn frm):bg X bd (.seq none .d (.seq (some nm1) (.seq none .d (.block (.loop nm2 (.seq none .d (.seq (some nm3) (.block (.seq none .d (.seq none .d (.seq (some nm4) (.seq none .d (.block (.loop nm5 (.seq none .d (.seq (some nm6) .d .d))))) .d)))) .d))))) .d)) nmR [6] [] [(.lst .work l),(.lst .bool dn),(.int .i64 frm)]=f0 l dn frm:=T0 l dn frm
theorem inner (l : List Work) (dn : List Bool) (k2 : Y2) (i : Nat) (hi : i < l.length) (hw : l[i].wa.length ≤ 90000) (ha : ∀ a ∈ l[i].wa, inb a dn.length = true) : ∀ (n j : Nat) (ok : Bool), l[i].wa.length < n + j → j ≤ l[i].wa.length →
    f5 k2 n l dn (i:Int) ok (j:Int)=f4 k2 l dn (i:Int) (ok&&List.all (l[i].wa.drop j) (fun a=>List.getD dn (Int.toNat a) d_bool)):=by
  intro n
  induction n with
  | zero=>intro j ok h1 h2; omega
  | succ n ih =>
    intro j ok h1 h2
    show sh5 l dn (i:Int) ok (j:Int) (f4 k2) (f6 k2 (f5 k2 n))=_
    unfold sh5
    rw [aZ hi,ac,al hi]
    by_cases hj:j < l[i].wa.length
    · have e : ∀ b : Bool, f6 k2 (f5 k2 n) l dn (i : Int) b (j : Int) = f4 k2 l dn (i : Int) (b && List.all (l[i].wa.drop (j + 1)) (fun a => List.getD dn (Int.toNat a) d_bool)) := fun b => by
        show f5 k2 n l dn (i:Int) b (IntKind.wrap .i64 ((j:Int)+1))=_
        rw [bo j (by omega)]
        exact ih (j+1) b (by omega) hj
      rw [bw (by simp; omega),aZ hj,ac,al hj,ha _ (List.getElem_mem hj),e,e,bl hj,List.all_cons]
      cases ok<;>rfl
    · have : j = l[i].wa.length := by omega
      subst this
      rw [bp (by simp),List.drop_length,List.all_nil,Bool.and_true]
      rfl
theorem loop (l : List Work) (dn : List Bool) (hl : l.length ≤ 90000) (hdl : dn.length = l.length) (hw : ∀ w ∈ l, w.wa.length ≤ 90000 ∧ ∀ a ∈ w.wa, inb a l.length = true) : ∀ (n i : Nat), l.length < n + i → i ≤ l.length → f2 n l dn (i : Int) = dK (dX dn i (l.drop i)) := by
  intro n
  induction n with
  | zero=>intro i h1 h2; omega
  | succ n ih =>
    intro i h1 h2
    show sh2 l dn (i:Int) f1 (f3 (f2 n)) (f5 (f2 n) 100000)=_
    unfold sh2
    by_cases hi:i < l.length
    · have hid : i < dn.length := by omega
      obtain ⟨w1,w2⟩:=hw _ (List.getElem_mem hi)
      have e:=inner l dn (f2 n) i hi w1 (by rw [hdl]; exact w2) 100000 0 true (by omega) (by omega)
      have e2:f3 (f2 n) l dn (i:Int)=dK (dX dn (i+1) (l.drop (i+1))):=by
        show f2 n l dn (IntKind.wrap .i64 ((i:Int)+1))=_
        rw [bo i (by omega)]
        exact ih (i+1) (by omega) hi
      have e3:∀ b:Bool,f4 (f2 n) l dn (i:Int) b=ah b (dK (i:Int)) (f3 (f2 n) l dn (i:Int)):=fun b=>rfl
      rw [bw (by simp; omega),aZ hid,ac,show ((0:Int))=((0:Nat):Int) from rfl,e,e3,e2,bl hi,List.drop_zero]
      simp only [dX]
      show _=dK (bif !(List.getD dn i d_bool)&&rdy dn l[i] then (i:Int) else dX dn (i+1) (l.drop (i+1)))
      unfold rdy
      cases List.getD dn i d_bool<;>cases List.all l[i].wa (fun a=>List.getD dn (Int.toNat a) d_bool)<;>rfl
    · have : i = l.length := by omega
      subst this
      rw [bp (by simp),List.drop_length]
      rfl
theorem f0_eq (l:List Work) (dn:List Bool) (frm:Int) (h:(okO l&&(Nat.beq (List.length dn) (List.length l)&&ile 0 frm))=true):f0 l dn frm=dK (bM l dn frm):=by
  simp only [Bool.and_eq_true] at h
  obtain ⟨h1,h2,h3⟩:=h
  obtain ⟨g1,g2⟩:=cX h1
  obtain ⟨q,rfl⟩:=Int.eq_ofNat_of_zero_le (b7 h3)
  show f2 100000 l dn (q:Int)=_
  unfold bM
  rw [ac]
  by_cases hq:q≤l.length
  · exact loop l dn g1 (Nat.eq_of_beq_eq_true h2) g2 100000 q (by omega) hq
  · show sh2 l dn (q : Int) f1 (f3 (f2 99999)) (f5 (f2 99999) 100000) = _
    unfold sh2
    rw [bp (by simp; omega),List.drop_eq_nil_of_le (by omega)]
    rfl
theorem ok:CtxOk Try.prog X:=aU tab spN dpN
theorem okM:MOk Try.prog X:=fun g sp h=>by cases h
theorem spec (l:List Work) (dn:List Bool) (frm:Int) (h:((okO l&&(Nat.beq (List.length dn) (List.length l)&&ile 0 frm)))=true):az Try.prog E 41 [(.lst .work l),(.lst .bool dn),(.int .i64 frm)] (.int .i64 (bM l dn frm)) [] :=
  aq ok okM Try.call41 Try.func41 (by kernel_rfl) (by kernel_rfl) (by kernel_rfl) (by show 3≤47; decide) (by decide) (by rfl) ((run l dn frm).trans (f0_eq l dn frm h))
noncomputable def sp:Sp U El:=fun args k=>match args with
  | [.lst .work l,.lst .bool dn,.int .i64 frm]=>chk ((okO l&&(Nat.beq (List.length dn) (List.length l)&&ile 0 frm))) (k (.int .i64 (bM l dn frm)) [])
  | _=>none
theorem spOk:SpOk Try.prog E 41 sp where
  det:=fun vs=>by
    unfold sp
    split
    · exact bz _ _ _
    · exact ⟨none,fun _=>rfl⟩
  ok:=fun vs k r h=>by
    unfold sp at h
    split at h
    · obtain ⟨h1, h2⟩ := ab h
      exact ⟨_,_,spec _ _ _ h1,h2⟩
    · cases h
end rready
end Go.Proofs.Ythdklallcljhlaa

namespace Go.Proofs.Ythdklallcljhlaa
set_option linter.unusedSectionVars false
set_option linter.unusedSimpArgs false
set_option linter.unusedVariables false
set_option maxRecDepth 100000
def oN (l:List Work):Prop:=∃ rk:Nat→Nat,∀ (i:Nat) (h:i < l.length),∀ a∈l[i].wa,rk (Int.toNat a) < rk i
noncomputable def dG (l:List Work):Bool:=@decide (oN l) (Classical.propDecidable _)
theorem pY {l:List Work} (h:oN l):dG l=true:=@decide_eq_true _ (Classical.propDecidable _) h
theorem pZ {l:List Work} (h:¬ oN l):dG l=false:=@decide_eq_false _ (Classical.propDecidable _) h
def bh:List Bool→Nat
  | []=>0
  | b :: l=>(bif b then 0 else 1)+bh l
theorem cI:∀ n,bh (List.replicate n d_bool)=n:=by
  intro n
  induction n with
  | zero=>rfl
  | succ n ih=>show 1+bh (List.replicate n d_bool)=n+1; rw [ih]; omega
theorem dR:∀ (dn:List Bool) (i:Nat),i < dn.length→List.getD dn i d_bool=false→bh (dn.set i true)+1=bh dn:=by
  intro dn
  induction dn with
  | nil=>intro i h; simp at h
  | cons b dn ih =>
    intro i h hb
    cases i with
    | zero =>
      have:b=false:=hb
      subst this
      show (0+bh dn)+1=1+bh dn
      omega
    | succ i =>
      have:=ih i (by simpa using h) hb
      show ((bif b then 0 else 1)+bh (dn.set i true))+1=(bif b then 0 else 1)+bh dn
      omega
theorem dH:∀ (dn:List Bool),bh dn=0→∀ i,i < dn.length→List.getD dn i d_bool=true:=by
  intro dn
  induction dn with
  | nil=>intro _ i h; simp at h
  | cons b dn ih =>
    intro h i hi
    have h':(bif b then 0 else 1)+bh dn=0:=h
    cases b with
    | false=>simp at h'
    | true =>
      cases i with
      | zero=>rfl
      | succ i=>exact ih (by simpa using h') i (by simpa using hi)
theorem nT:∀ (dn:List Bool),0 < bh dn→∃ i,i < dn.length∧List.getD dn i d_bool=false:=by
  intro dn
  induction dn with
  | nil=>intro h; simp [bh] at h
  | cons b dn ih =>
    intro h
    cases b with
    | false=>exact ⟨0,by simp,rfl⟩
    | true =>
      have h':0+bh dn > 0:=h
      obtain ⟨i,h1,h2⟩:=ih (by omega)
      exact ⟨i+1,by simp; omega,h2⟩
theorem gF (dn:List Bool) (i j:Nat) (hi:i < dn.length):List.getD (dn.set i true) j d_bool=bif Nat.beq i j then true else List.getD dn j d_bool:=by
  rw [List.getD_eq_getElem?_getD,List.getElem?_set]
  by_cases e:i=j
  · subst e
    rw [if_pos rfl,if_pos hi,Nat.beq_refl]
    rfl
  · rw [if_neg e,ai e,cond_false,List.getD_eq_getElem?_getD]
def kY (l:List Work) (dn:List Bool):Prop:=dn.length=l.length∧∃ (rk:Nat→Nat) (T:Nat),∀ (i:Nat) (h:i < l.length),List.getD dn i d_bool=true→rk i < T∧∀ a∈l[i].wa,List.getD dn (Int.toNat a) d_bool=true∧rk (Int.toNat a) < rk i
theorem gG (l:List Work):kY l (List.replicate l.length d_bool):=by
  refine ⟨by simp,fun _=>0,0,fun i h hd => ?_⟩
  rw [al (by simpa using h),List.getElem_replicate] at hd
  cases hd
theorem jH {l : List Work} {dn : List Bool} (hg : kY l dn) {i : Nat} (hi : i < l.length) (hu : List.getD dn i d_bool = false) (hr : rdy dn l[i] = true) : kY l (dn.set i true) := by
  obtain ⟨hl,rk,T,h⟩:=hg
  have hid:i < dn.length:=by omega
  refine ⟨by simpa using hl,fun j=>if j=i then T else rk j,T+1,fun j hj hd => ?_⟩
  rw [gF _ _ _ hid] at hd
  by_cases e:i=j
  · subst e
    dsimp only
    rw [if_pos rfl]
    refine ⟨by omega,fun a ha => ?_⟩
    have hda:List.getD dn (Int.toNat a) d_bool=true:=List.all_eq_true.1 hr a ha
    have hne:Int.toNat a≠i:=fun e=>by rw [e,hu] at hda; cases hda
    rw [gF _ _ _ hid,ai (Ne.symm hne),cond_false,if_neg hne]
    refine ⟨hda,?_⟩
    by_cases hal:Int.toNat a < l.length
    · exact (h _ hal hda).1
    · have : List.getD dn (Int.toNat a) d_bool = false := by
        rw [List.getD_eq_getElem?_getD,List.getElem?_eq_none (by omega)]
        rfl
      rw [this] at hda
      cases hda
  · rw [ai e, cond_false] at hd
    obtain ⟨h1,h2⟩:=h j hj hd
    dsimp only
    rw [if_neg (Ne.symm e)]
    refine ⟨by omega,fun a ha => ?_⟩
    obtain ⟨h3,h4⟩:=h2 a ha
    have hne:Int.toNat a≠i:=fun e=>by rw [e,hu] at h3; cases h3
    rw [gF _ _ _ hid,ai (Ne.symm hne),cond_false,if_neg hne]
    exact ⟨h3,h4⟩
theorem mi {l:List Work} {dn:List Bool} (hg:kY l dn) (h0:bh dn=0):oN l:=by
  obtain ⟨hl,rk,T,h⟩:=hg
  exact ⟨rk,fun i hi a ha=>((h i hi (dH dn h0 i (by omega))).2 a ha).2⟩
theorem nU {l : List Work} {dn : List Bool} (ha : oN l) (hl : dn.length = l.length) (hin : ∀ w ∈ l, ∀ a ∈ w.wa, inb a l.length = true) (hp : 0 < bh dn) : ∃ i, ∃ h : i < l.length, List.getD dn i d_bool = false ∧ rdy dn l[i] = true := by
  obtain ⟨rk,hrk⟩:=ha
  have key:∀ (m i:Nat),rk i < m→∀ h:i < l.length,List.getD dn i d_bool=false→∃ i,∃ h:i < l.length,List.getD dn i d_bool=false∧rdy dn l[i]=true:=by
    intro m
    induction m with
    | zero=>intro i h; omega
    | succ m ih =>
      intro i hm h hd
      cases hr:rdy dn l[i] with
      | true=>exact ⟨i,h,hd,hr⟩
      | false =>
        obtain ⟨a,ha1,ha2⟩:=List.all_eq_false.1 hr
        have hb:=hin _ (List.getElem_mem h) a ha1
        simp only [inb,Bool.and_eq_true] at hb
        have b1:=b7 hb.1; have b2:=dJ hb.2
        exact ih (Int.toNat a) (by have:=hrk i h a ha1; omega) (by omega) (by simpa using ha2)
  obtain ⟨i,h1,h2⟩:=nT dn hp
  exact key (rk i+1) i (by omega) (by omega) h2
theorem mj (dn : List Bool) : ∀ (l : List Work) (i : Nat), (dX dn i l = -1 ∧ ∀ (j : Nat) (h : j < l.length), List.getD dn (i + j) d_bool = false → rdy dn l[j] = false) ∨ ∃ (j : Nat) (h : j < l.length), dX dn i l = ((i + j : Nat) : Int) ∧ List.getD dn (i + j) d_bool = false ∧ rdy dn l[j] = true := by
  intro l
  induction l with
  | nil=>intro i; exact .inl ⟨rfl,fun j h=>by simp at h⟩
  | cons w l ih =>
    intro i
    simp only [dX]
    cases hc:(!(List.getD dn i d_bool)&&rdy dn w) with
    | true =>
      simp only [Bool.and_eq_true,Bool.not_eq_true'] at hc
      exact .inr ⟨0,by simp,by simp,hc.1,hc.2⟩
    | false =>
      rw [cond_false]
      rcases ih (i+1) with ⟨h1,h2⟩ | ⟨j,hj,h1,h2,h3⟩
      · refine .inl ⟨h1, fun j hj hd => ?_⟩
        cases j with
        | zero =>
          have hd':List.getD dn i d_bool=false:=hd
          rw [hd'] at hc
          simpa using hc
        | succ j=>exact h2 j (by simpa using hj) (by rw [show i+1+j=i+(j+1) by omega]; exact hd)
      · refine .inr ⟨j+1,by simp; omega,by rw [h1]; omega,by rw [show i+(j+1)=i+1+j by omega]; exact h2,by simpa using h3⟩
namespace ordered
noncomputable def bd:Code:=(Try.f38.body).getD .skip
noncomputable def X:Ctx U El:=⟨E,tds,zeros,eqs,aG [],100000,44,aD [],cg [(68,(gz ordC.sp))]⟩
noncomputable def nmR:Norm U:=⟨[],[2],[],[],[],[],[]⟩
noncomputable def RR:ae U El:=fun st=>aM nmR st (aK [2] [])
noncomputable def nm1:Norm U:=⟨[],[],[],[],[],[],[]⟩
noncomputable def nm2:Norm U:=⟨[],[0,3,4],[3,500000300],[],[(3,0,.bool,500000300)],[],[]⟩
noncomputable def nm3:Norm U:=⟨[],[0,3,4,5],[3,500000300],[],[(3,0,.bool,500000300)],[],[]⟩
noncomputable def nm4:Norm U:=⟨[],[0,3,4,5,16,17,18],[3,500000300],[],[(3,0,.bool,500000300)],[],[]⟩
noncomputable def nm5:Norm U:=⟨[],[0,3,4,5,16,17,18],[3,500000300],[],[(3,0,.bool,500000300)],[],[]⟩
abbrev Y1:=R
abbrev Y2:=(List Work)→Int→(List Bool)→R
abbrev Y3:=(List Work)→Int→Int→(List Bool)→R
abbrev Y4:=(List Work)→Int→Int→(List Work)→Int→Int→(List Bool)→R
abbrev Y5:=(List Work)→Int→Int→(List Work)→Int→Int→(List Bool)→R
noncomputable def fr0 (l:List Work):St U El:=⟨[(0,(.lst .work l))],[]⟩
noncomputable def fr1:St U El:=⟨[],[]⟩
noncomputable def fr2 (l0:List Work) (bA:Int) (cA:List Bool):St U El:=⟨[(0,(.lst .work l0)),(3,(.ptr 3 0)),(4,(.int .i64 bA))],[(3,(.box 0 [(.ful 500000300)])),(500000300,(.rows .bool cA))]⟩
noncomputable def fr3 (l0:List Work) (bA:Int) (aA:Int) (cA:List Bool):St U El:=⟨[(0,(.lst .work l0)),(3,(.ptr 3 0)),(4,(.int .i64 bA)),(5,(.int .i64 aA))],[(3,(.box 0 [(.ful 500000300)])),(500000300,(.rows .bool cA))]⟩
noncomputable def fr4 (l0:List Work) (bA:Int) (aA:Int) (eA:List Work) (fA:Int) (dA:Int) (cA:List Bool):St U El:=⟨[(0,(.lst .work l0)),(3,(.ptr 3 0)),(4,(.int .i64 bA)),(5,(.int .i64 aA)),(16,(.lst .work eA)),(17,(.int .i64 fA)),(18,(.int .i64 dA))],[(3,(.box 0 [(.ful 500000300)])),(500000300,(.rows .bool cA))]⟩
noncomputable def fr5 (l0:List Work) (bA:Int) (aA:Int) (eA:List Work) (fA:Int) (dA:Int) (cA:List Bool):St U El:=⟨[(0,(.lst .work l0)),(3,(.ptr 3 0)),(4,(.int .i64 bA)),(5,(.int .i64 aA)),(16,(.lst .work eA)),(17,(.int .i64 fA)),(18,(.int .i64 dA))],[(3,(.box 0 [(.ful 500000300)])),(500000300,(.rows .bool cA))]⟩
noncomputable def sh0 (l:List Work) (k2:Y2):R :=
  chk (ile 0 (Int.ofNat (List.length l))&&ile (Int.ofNat (List.length l)) (Int.ofNat (List.length l))&&ile ((Int.ofNat (List.length l)) * 1) 140737488355328) (k2 l (Int.ofNat (List.length l)) (List.replicate (Int.toNat (Int.ofNat (List.length l))) d_bool))
noncomputable def sh1:R :=
  some ((.bool true),[])
noncomputable def sh2 (l0:List Work) (bA:Int) (cA:List Bool) (k1:Y1) (k4:Y4):R :=
  ah (ilt (0:Int) bA) (k4 l0 bA bA l0 (Int.ofNat (List.length l0)) (0:Int) cA) (k1)
noncomputable def sh3 (l0:List Work) (bA:Int) (aA:Int) (cA:List Bool) (k2:Y2):R :=
  ah (bA == aA) (some ((.bool false),[])) (k2 l0 bA cA)
noncomputable def sh4 (l0:List Work) (bA:Int) (aA:Int) (eA:List Work) (fA:Int) (dA:Int) (cA:List Bool) (k3:Y3) (k5:Y5):R :=
  ah (ilt dA fA) (chk (inb dA (List.length eA)) (chk (inb dA (List.length cA)) (chk (nlt (Int.toNat dA) (List.length cA)) (ah (!(List.getD cA (Int.toNat dA) d_bool)) (chk ((nle (List.length ((List.getD eA (Int.toNat dA) aa).wa)) 90000&&List.all ((List.getD eA (Int.toNat dA) aa).wa) (fun a=>inb a (List.length cA)))) (ah (!(List.any ((List.getD eA (Int.toNat dA) aa).wa) (aW cA))) (chk (inb dA (List.length cA)) (chk (nlt (Int.toNat dA) (List.length cA)&&true) (k5 l0 (IntKind.wrap .i64 (bA - (1:Int))) aA eA fA dA (List.set cA (Int.toNat dA) true)))) (k5 l0 bA aA eA fA dA cA))) (k5 l0 bA aA eA fA dA cA))))) (k3 l0 bA aA cA)
noncomputable def sh5 (l0:List Work) (bA:Int) (aA:Int) (eA:List Work) (fA:Int) (dA:Int) (cA:List Bool) (k4:Y4):R :=
  k4 l0 bA aA eA fA (IntKind.wrap .i64 (dA+(1:Int))) cA
noncomputable def it2 (Kb1:ae U El) (n:Nat):ae U El:=bL nm2 (fun st' K'=>ak X (cdp [1,1,0,1,0,0] bd) (.seq none .d (.block (.seq none .d (.seq (some nm3) (.seq none .d (.block (.loop nm4 (.seq none .d (.seq none .d (.seq (some nm5) .d .d)))))) .d)))) st' K' (aw 0 (ap nm1 Kb1) (fun _ _=>none)) RR) n
noncomputable def it4 (Kb1 Kb2 Kb3:ae U El) (n:Nat):ae U El:=bL nm4 (fun st' K'=>ak X (cdp [1,1,0,1,0,0,1,0,1,0,1,0,0] bd) (.seq none .d (.seq none .d (.seq (some nm5) .d .d))) st' K' (aw 2 (ap nm3 Kb3) (aw 1 (ap nm2 Kb2) (aw 0 (ap nm1 Kb1) (fun _ _=>none)))) RR) n
noncomputable def ct1:ae U El:=fun st=>ak X (cdp [1,1,1] bd) .d st RR (fun _ _=>none) RR
noncomputable def ct3 (Kb1 Kb2:ae U El):ae U El:=fun st=>ak X (cdp [1,1,0,1,0,0,1,0,1,1] bd) .d st (ap nm2 Kb2) (aw 1 (ap nm2 Kb2) (aw 0 (ap nm1 Kb1) (fun _ _=>none))) RR
noncomputable def ct5 (Kb1 Kb2 Kb3 Kb4:ae U El):ae U El:=fun st=>ak X (cdp [1,1,0,1,0,0,1,0,1,0,1,0,0,1,1,1] bd) .d st (ap nm4 Kb4) (aw 2 (ap nm3 Kb3) (aw 1 (ap nm2 Kb2) (aw 0 (ap nm1 Kb1) (fun _ _=>none)))) RR
theorem P0 (l):ak X (cdp [] bd) (.seq none .d (.seq none .d (.seq (some nm1) (.seq none .d (.block (.loop nm2 (.seq none .d (.block (.seq none .d (.seq (some nm3) (.seq none .d (.block (.loop nm4 (.seq none .d (.seq none .d (.seq (some nm5) .d .d)))))) .d))))))) .d))) (fr0 l) RR (fun _ _=>none) RR=sh0 l (fun y0 y1 y2=>(hid (it2 (hid ct1) 100000)) (fr2 y0 y1 y2)):=by kernel_rfl
theorem P1:ct1 (fr1)=sh1:=by kernel_rfl
theorem P2 (l0 bA cA) (Kb1 Kb2:ae U El):ak X (cdp [1,1,0,1,0,0] bd) (.seq none .d (.block (.seq none .d (.seq (some nm3) (.seq none .d (.block (.loop nm4 (.seq none .d (.seq none .d (.seq (some nm5) .d .d)))))) .d)))) (fr2 l0 bA cA) (ap nm2 Kb2) (aw 0 (ap nm1 Kb1) (fun _ _=>none)) RR=sh2 l0 bA cA (Kb1 (fr1)) (fun y0 y1 y2 y3 y4 y5 y6=>(hid (it4 Kb1 Kb2 (hid (ct3 Kb1 Kb2)) 100000)) (fr4 y0 y1 y2 y3 y4 y5 y6)):=by kernel_rfl
theorem P3 (l0 bA aA cA) (Kb1 Kb2:ae U El):ct3 Kb1 Kb2 (fr3 l0 bA aA cA)=sh3 l0 bA aA cA (fun y0 y1 y2=>Kb2 (fr2 y0 y1 y2)):=by kernel_rfl
theorem P4 (l0 bA aA eA fA dA cA) (Kb1 Kb2 Kb3 Kb4:ae U El):ak X (cdp [1,1,0,1,0,0,1,0,1,0,1,0,0] bd) (.seq none .d (.seq none .d (.seq (some nm5) .d .d))) (fr4 l0 bA aA eA fA dA cA) (ap nm4 Kb4) (aw 2 (ap nm3 Kb3) (aw 1 (ap nm2 Kb2) (aw 0 (ap nm1 Kb1) (fun _ _=>none)))) RR=sh4 l0 bA aA eA fA dA cA (fun y0 y1 y2 y3=>Kb3 (fr3 y0 y1 y2 y3)) (fun y0 y1 y2 y3 y4 y5 y6=>(hid (ct5 Kb1 Kb2 Kb3 Kb4)) (fr5 y0 y1 y2 y3 y4 y5 y6)):=by kernel_rfl
theorem P5 (l0 bA aA eA fA dA cA) (Kb1 Kb2 Kb3 Kb4:ae U El):ct5 Kb1 Kb2 Kb3 Kb4 (fr5 l0 bA aA eA fA dA cA)=sh5 l0 bA aA eA fA dA cA (fun y0 y1 y2 y3 y4 y5 y6=>Kb4 (fr4 y0 y1 y2 y3 y4 y5 y6)):=by kernel_rfl
noncomputable def f1:R:=sh1
noncomputable def f3 (k2:Y2) (l0:List Work) (bA:Int) (aA:Int) (cA:List Bool):R:=sh3 l0 bA aA cA k2
noncomputable def f5 (k2:Y2) (k4:Y4) (l0:List Work) (bA:Int) (aA:Int) (eA:List Work) (fA:Int) (dA:Int) (cA:List Bool):R:=sh5 l0 bA aA eA fA dA cA k4
noncomputable def f4 (k2:Y2):Nat→Y4
  | 0=>fun _ _ _ _ _ _ _=>none
  | n+1=>fun l0 bA aA eA fA dA cA=>sh4 l0 bA aA eA fA dA cA (f3 k2) (f5 k2 (f4 k2 n))
noncomputable def f2:Nat→Y2
  | 0=>fun _ _ _=>none
  | n+1=>fun l0 bA cA=>sh2 l0 bA cA f1 (f4 (f2 n) 100000)
noncomputable def f0 (l:List Work):R:=sh0 l (f2 100000)
theorem T1:(hid ct1) (fr1)=f1:=by
  refine (congrFun (am _) _).trans <| (P1).trans ?_
  show _=sh1
  rfl
theorem T3 (KL2:ae U El) (k2:Y2) (h2:∀ l0 bA cA,KL2 (fr2 l0 bA cA)=k2 l0 bA cA) (l0 bA aA cA):(hid (ct3 (hid ct1) KL2)) (fr3 l0 bA aA cA)=f3 k2 l0 bA aA cA:=by
  refine (congrFun (am _) _).trans <| (P3 l0 bA aA cA (hid ct1) KL2).trans ?_
  show _=sh3 l0 bA aA cA k2
  simp only [h2]
theorem T5 (KL2:ae U El) (KL4:ae U El) (k2:Y2) (k4:Y4) (h2:∀ l0 bA cA,KL2 (fr2 l0 bA cA)=k2 l0 bA cA) (h4:∀ l0 bA aA eA fA dA cA,KL4 (fr4 l0 bA aA eA fA dA cA)=k4 l0 bA aA eA fA dA cA) (l0 bA aA eA fA dA cA):(hid (ct5 (hid ct1) KL2 (hid (ct3 (hid ct1) KL2)) KL4)) (fr5 l0 bA aA eA fA dA cA)=f5 k2 k4 l0 bA aA eA fA dA cA:=by
  refine (congrFun (am _) _).trans <| (P5 l0 bA aA eA fA dA cA (hid ct1) KL2 (hid (ct3 (hid ct1) KL2)) KL4).trans ?_
  show _=sh5 l0 bA aA eA fA dA cA k4
  simp only [h4]
theorem T4 (KL2:ae U El) (k2:Y2) (h2:∀ l0 bA cA,KL2 (fr2 l0 bA cA)=k2 l0 bA cA):∀ (n:Nat),∀ l0 bA aA eA fA dA cA,it4 (hid ct1) KL2 (hid (ct3 (hid ct1) KL2)) n (fr4 l0 bA aA eA fA dA cA)=f4 k2 n l0 bA aA eA fA dA cA:=by
  intro n
  induction n with
  | zero=>intros; rfl
  | succ n ih =>
    intro l0 bA aA eA fA dA cA
    refine (P4 l0 bA aA eA fA dA cA (hid ct1) KL2 (hid (ct3 (hid ct1) KL2)) (it4 (hid ct1) KL2 (hid (ct3 (hid ct1) KL2)) n)).trans ?_
    show _=sh4 l0 bA aA eA fA dA cA (f3 k2) (f5 k2 (f4 k2 n))
    simp only [T3 KL2 k2 h2,T5 KL2 (it4 (hid ct1) KL2 (hid (ct3 (hid ct1) KL2)) n) k2 (f4 k2 n) h2 ih]
theorem H4 (KL2:ae U El) (k2:Y2) (h2:∀ l0 bA cA,KL2 (fr2 l0 bA cA)=k2 l0 bA cA) (l0 bA aA eA fA dA cA):hid (it4 (hid ct1) KL2 (hid (ct3 (hid ct1) KL2)) 100000) (fr4 l0 bA aA eA fA dA cA)=f4 k2 100000 l0 bA aA eA fA dA cA:=(congrFun (am _) _).trans (T4 KL2 k2 h2 100000 l0 bA aA eA fA dA cA)
theorem T2:∀ (n:Nat),∀ l0 bA cA,it2 (hid ct1) n (fr2 l0 bA cA)=f2 n l0 bA cA:=by
  intro n
  induction n with
  | zero=>intros; rfl
  | succ n ih =>
    intro l0 bA cA
    refine (P2 l0 bA cA (hid ct1) (it2 (hid ct1) n)).trans ?_
    show _=sh2 l0 bA cA f1 (f4 (f2 n) 100000)
    simp only [T1,H4 (it2 (hid ct1) n) (f2 n) ih]
theorem H2 (l0 bA cA):hid (it2 (hid ct1) 100000) (fr2 l0 bA cA)=f2 100000 l0 bA cA:=(congrFun (am _) _).trans (T2 100000 l0 bA cA)
theorem T0 (l):ak X bd (.seq none .d (.seq none .d (.seq (some nm1) (.seq none .d (.block (.loop nm2 (.seq none .d (.block (.seq none .d (.seq (some nm3) (.seq none .d (.block (.loop nm4 (.seq none .d (.seq none .d (.seq (some nm5) .d .d)))))) .d))))))) .d))) (fr0 l) RR (fun _ _=>none) RR=f0 l:=by
  refine (P0 l).trans ?_
  show _=sh0 l (f2 100000)
  simp only [H2]
theorem run (l):bg X bd (.seq none .d (.seq none .d (.seq (some nm1) (.seq none .d (.block (.loop nm2 (.seq none .d (.block (.seq none .d (.seq (some nm3) (.seq none .d (.block (.loop nm4 (.seq none .d (.seq none .d (.seq (some nm5) .d .d)))))) .d))))))) .d))) nmR [2] [] [(.lst .work l)]=f0 l:=T0 l
theorem inner (l : List Work) (hl : l.length ≤ 90000) (hw : ∀ w ∈ l, w.wa.length ≤ 90000 ∧ ∀ a ∈ w.wa, inb a l.length = true) (k2 : Y2) (before : Int) : ∀ (n i left : Nat) (dn : List Bool), l.length < n + i → i ≤ l.length → kY l dn → bh dn = left →
    ∃ (left':Nat) (dn':List Bool),f4 k2 n l (left:Int) before l (Int.ofNat l.length) (i:Int) dn=f3 k2 l (left':Int) before dn'∧kY l dn'∧bh dn'=left'∧left'≤left∧(left'=left→dn'=dn∧∀ (j:Nat) (h:j < l.length),i≤j→List.getD dn j d_bool=false→rdy dn l[j]=false):=by
  intro n
  induction n with
  | zero=>intro i left dn h1 h2; omega
  | succ n ih =>
    intro i left dn h1 h2 hg hc
    by_cases hi:i < l.length
    · have hid : i < dn.length := by rw [hg.1]; exact hi
      obtain ⟨w1,w2⟩:=hw _ (List.getElem_mem hi)
      have e5:∀ (lf:Nat) (d:List Bool),f5 k2 (f4 k2 n) l (lf:Int) before l (Int.ofNat l.length) (i:Int) d=f4 k2 n l (lf:Int) before l (Int.ofNat l.length) ((i+1:Nat):Int) d:=fun lf d=>by
        show f4 k2 n l (lf:Int) before l (Int.ofNat l.length) (IntKind.wrap .i64 ((i:Int)+1)) d=_
        rw [bo i (by omega)]
      have hall:List.all l[i].wa (fun a=>inb a dn.length)=true:=List.all_eq_true.2 fun a ha=>by rw [hg.1]; exact w2 a ha
      have hrd:(!(List.any l[i].wa (aW dn)))=rdy dn l[i]:=by
        unfold rdy
        rw [Bool.eq_iff_iff]
        simp [aW]
      have step:f4 k2 (n+1) l (left:Int) before l (Int.ofNat l.length) (i:Int) dn=bif !(List.getD dn i d_bool)&&rdy dn l[i] then f5 k2 (f4 k2 n) l (IntKind.wrap .i64 ((left:Int) - 1)) before l (Int.ofNat l.length) (i:Int) (dn.set i true) else f5 k2 (f4 k2 n) l (left:Int) before l (Int.ofNat l.length) (i:Int) dn:=by
        show sh4 l (left:Int) before l (Int.ofNat l.length) (i:Int) dn (f3 k2) (f5 k2 (f4 k2 n))=_
        unfold sh4
        rw [bw (by simp; omega),aZ hi,aZ hid,ac,eb hid,al hi,hrd,bC w1,hall]
        cases List.getD dn i d_bool<;>cases rdy dn l[i]<;>rfl
      rw [step]
      cases hb:(!(List.getD dn i d_bool)&&rdy dn l[i]) with
      | true =>
        simp only [Bool.and_eq_true,Bool.not_eq_true'] at hb
        have hcs:=dR dn i hid hb.1
        obtain ⟨lf,hlf⟩:∃ lf,left=lf+1:=⟨bh (dn.set i true),by omega⟩
        have hwr:IntKind.wrap .i64 ((left:Int) - 1)=(lf:Int):=by
          have hcl:bh dn≤dn.length:=by
            have:∀ d:List Bool,bh d≤d.length:=by
              intro d
              induction d with
              | nil=>exact Nat.le_refl _
              | cons b d ih=>show (bif b then 0 else 1)+bh d≤d.length+1; cases b<;>simp<;>omega
            exact this dn
          have hdl:=hg.1
          rw [bU (by omega) (by omega)]
          omega
        rw [cond_true,hwr,e5]
        obtain ⟨l',d',q1,q2,q3,q4,q5⟩:=ih (i+1) lf (dn.set i true) (by omega) hi (jH hg hi hb.1 hb.2) (by omega)
        exact ⟨l',d',q1,q2,q3,by omega,fun e=>by omega⟩
      | false =>
        rw [cond_false,e5]
        obtain ⟨l',d',q1,q2,q3,q4,q5⟩:=ih (i+1) left dn (by omega) hi hg hc
        refine ⟨l',d',q1,q2,q3,q4,fun e => ?_⟩
        obtain ⟨r1,r2⟩:=q5 e
        refine ⟨r1,fun j hj hij hd => ?_⟩
        by_cases e2:j=i
        · subst e2
          rw [hd] at hb
          simpa using hb
        · exact r2 j hj (by omega) hd
    · have : i = l.length := by omega
      subst this
      refine ⟨left,dn,?_,hg,hc,Nat.le_refl _,fun _=>⟨rfl,fun j hj hij=>by omega⟩⟩
      show sh4 l (left:Int) before l (Int.ofNat l.length) (l.length:Int) dn (f3 k2) (f5 k2 (f4 k2 n))=_
      unfold sh4
      rw [bp (by simp)]
      rfl
theorem outer (l : List Work) (hl : l.length ≤ 90000) (hw : ∀ w ∈ l, w.wa.length ≤ 90000 ∧ ∀ a ∈ w.wa, inb a l.length = true) : ∀ (n left : Nat) (dn : List Bool), left < n → kY l dn → bh dn = left → f2 n l (left : Int) dn = bm (dG l) := by
  intro n
  induction n with
  | zero=>intro left dn h; omega
  | succ n ih =>
    intro left dn h hg hc
    show sh2 l (left:Int) dn f1 (f4 (f2 n) 100000)=_
    unfold sh2
    by_cases h0:left=0
    · subst h0
      rw [bp (by simp),pY (mi hg hc)]
      rfl
    · rw [bw (show (0 : Int) < (left : Int) by omega), cH]
      obtain ⟨l',d',q1,q2,q3,q4,q5⟩:=inner l hl hw (f2 n) (left:Int) 100000 0 left dn (by omega) (by omega) hg hc
      refine Eq.trans q1 ?_
      show sh3 l (l':Int) (left:Int) d' (f2 n)=_
      unfold sh3
      by_cases e:l'=left
      · subst e
        obtain ⟨r1,r2⟩:=q5 rfl
        rw [beq_self_eq_true,cH,pZ fun ha => ?_]
        · rfl
        · obtain ⟨i, hi, s1, s2⟩ := nU ha hg.1 (fun w hw' => (hw w hw').2) (by omega : 0 < bh dn)
          rw [r2 i hi (by omega) s1] at s2
          cases s2
      · rw [show ((l' : Int) == (left : Int)) = false from beq_eq_false_iff_ne.2 fun e2 => e (Int.ofNat.inj e2), bV]
        exact ih l' d' (by omega) q2 q3
theorem f0_eq (l:List Work) (h:okO l=true):f0 l=bm (dG l):=by
  obtain ⟨h1,h2⟩:=cX h
  show sh0 l (f2 100000)=_
  unfold sh0
  rw [bD (show (0:Int)≤Int.ofNat l.length by simp),bD (Int.le_refl (Int.ofNat l.length)),bD (show Int.ofNat l.length * 1≤140737488355328 by simp; omega)]
  show f2 100000 l (l.length:Int) (List.replicate l.length d_bool)=_
  exact outer l h1 h2 100000 l.length _ (by omega) (gG l) (cI _)
theorem ok:CtxOk Try.prog X:=aU tab spN dpN
theorem okM:MOk Try.prog X:=bF _ (mpC (cF ok ordC.spOk) mpN)
theorem spec (l:List Work) (h:(okO l)=true):az Try.prog E 38 [(.lst .work l)] (.bool (dG l)) [] :=
  aq ok okM Try.call38 Try.func38 (by kernel_rfl) (by kernel_rfl) (by kernel_rfl) (by show 1≤44; decide) (by decide) (by rfl) ((run l).trans (f0_eq l h))
noncomputable def sp:Sp U El:=fun args k=>match args with
  | [.lst .work l]=>chk (okO l) (k (.bool (dG l)) [])
  | _=>none
theorem spOk:SpOk Try.prog E 38 sp where
  det:=fun vs=>by
    unfold sp
    split
    · exact bz _ _ _
    · exact ⟨none,fun _=>rfl⟩
  ok:=fun vs k r h=>by
    unfold sp at h
    split at h
    · obtain ⟨h1, h2⟩ := ab h
      exact ⟨_,_,spec _ h1,h2⟩
    · cases h
end ordered
end Go.Proofs.Ythdklallcljhlaa
