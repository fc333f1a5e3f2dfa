/- Check of the code and of the document. -/
import Derived.Test.YthdklallcljhlaaGreatDoorVG
namespace Go.Proofs.YthdklallcljhlaaGreatDoor
set_option linter.unusedSectionVars false
set_option linter.unusedSimpArgs false
set_option linter.unusedVariables false
set_option maxRecDepth 100000
noncomputable def hI (l:List Work) (p:List Slot):Nat→Nat→Int×Int
  | 0,_=>(0,-1)
  | n+1,k=>bif bG l p (k:Int) != 0 then (bG l p (k:Int),(k:Int)) else hI l p n (k+1)
noncomputable def jx (l:List Work) (crews:Int) (p:List Slot):Int×Int:=bif !(bF l crews) then (1,-1) else bif Int.ofNat p.length != Int.ofNat l.length then (3,-1) else hI l p p.length 0
noncomputable def az (l:List Work) (crews:Int) (p:List Slot):Int:=(jx l crews p).1
noncomputable def eU (l:List Work) (crews:Int) (p:List Slot):Int:=(jx l crews p).2
theorem rZ {n crews:Int} {dup:Bool} {w:Work} (h:wk n crews dup w=true):1≤w.wh∧w.wh≤1000:=by
  simp only [wk,Bool.and_eq_true] at h
  exact ⟨dw h.2.2.1.1,dw h.2.2.1.2⟩
theorem ml {n crews:Int}:∀ {l seen:List Work},bL n crews seen l=true→∀ w∈l,1≤w.wh∧w.wh≤1000:=by
  intro l
  induction l with
  | nil=>intro seen _ w hw; cases hw
  | cons x l ih =>
    intro seen h w hw
    simp only [bL,Bool.and_eq_true] at h
    rcases List.mem_cons.1 hw with rfl | hw
    · exact rZ h.1
    · exact ih h.2 w hw
theorem kp {l:List Work} {crews:Int} {p:List Slot} (hv:okV l=true) (h:bF l crews=true) (hp:p.length=l.length) {k:Nat} (hk:k < l.length):okF l p (k:Int)=true:=by
  simp only [bF,Bool.and_eq_true] at h
  obtain ⟨_,_,hg,_⟩:=h
  simp only [okF,Bool.and_eq_true]
  refine ⟨gq hv hg,List.all_eq_true.2 fun w hw => ?_,?_,a8 hk⟩
  · obtain ⟨q1, q2⟩ := ml hg w hw
    simp only [Bool.and_eq_true]
    exact ⟨bz ((dJ hv).2 w hw).2,bP (by omega),bP q2⟩
  · rw [hp]; exact Nat.beq_refl _
noncomputable def qY (q:Int×Int):R:=some ((.tup [(.int .i64 q.1),(.int .i64 q.2)]),[])
namespace check
noncomputable def bd:Code:=(Tryz.f17.body).getD .skip
noncomputable def X:Ctx U El:=⟨E,tds,zeros,eqs,aH [(29,valid.sp),(52,fault.sp)],100000,33,aB [],fun _=>none⟩
noncomputable def nmR:Norm U:=⟨[],[6,7],[],[],[],[],[]⟩
noncomputable def RR:ah U El:=fun st=>aL nmR st (aG [6,7] [])
noncomputable def nm1:Norm U:=⟨[],[],[],[],[],[],[]⟩
noncomputable def nm2:Norm U:=⟨[],[0,2,20,21],[],[],[],[],[]⟩
abbrev Y1:=R
abbrev Y2:=(List Work)→(List Slot)→Int→Int→R
noncomputable def fr0 (l:List Work) (crews:Int) (p:List Slot):St U El:=⟨[(0,(.lst .work l)),(1,(.int .i64 crews)),(2,(.lst .slot p))],[]⟩
noncomputable def fr1:St U El:=⟨[],[]⟩
noncomputable def fr2 (l0:List Work) (p2:List Slot) (bA:Int) (aA:Int):St U El:=⟨[(0,(.lst .work l0)),(2,(.lst .slot p2)),(20,(.int .i64 bA)),(21,(.int .i64 aA))],[]⟩
noncomputable def sh0 (l:List Work) (crews:Int) (p:List Slot) (k2:Y2):R :=
  chk (okV l) (af (!(bF l crews)) (some ((.tup [(.int .i64 (1:Int)),(.int .i64 (-1:Int))]),[])) (af ((Int.ofNat (List.length p)) != (Int.ofNat (List.length l))) (some ((.tup [(.int .i64 (3:Int)),(.int .i64 (-1:Int))]),[])) (k2 l p (Int.ofNat (List.length p)) (0:Int))))
noncomputable def sh1:R :=
  some ((.tup [(.int .i64 (0:Int)),(.int .i64 (-1:Int))]),[])
noncomputable def sh2 (l0:List Work) (p2:List Slot) (bA:Int) (aA:Int) (k1:Y1) (k2:Y2):R :=
  af (ilt aA bA) (chk (okF l0 p2 aA) (af ((bG l0 p2 aA) != (0:Int)) (some ((.tup [(.int .i64 (bG l0 p2 aA)),(.int .i64 aA)]),[])) (k2 l0 p2 bA (IntKind.wrap .i64 (aA+(1:Int)))))) (k1)
noncomputable def it2 (Kb1:ah U El) (n:Nat):ah U El:=bD nm2 (fun st' K'=>ak X (cdp [1,1,1,0,1,0,0] bd) .d st' K' (aC 0 (ap nm1 Kb1) (fun _ _=>none)) RR) n
noncomputable def ct1:ah U El:=fun st=>ak X (cdp [1,1,1,1] bd) .d st RR (fun _ _=>none) RR
theorem P0 (l crews p):ak X (cdp [] bd) (.seq none .d (.seq none .d (.seq none .d (.seq (some nm1) (.seq none .d (.block (.loop nm2 .d))) .d)))) (fr0 l crews p) RR (fun _ _=>none) RR=sh0 l crews p (fun y0 y1 y2 y3=>(hid (it2 (hid ct1) 100000)) (fr2 y0 y1 y2 y3)):=by kernel_rfl
theorem P1:ct1 (fr1)=sh1:=by kernel_rfl
theorem P2 (l0 p2 bA aA) (Kb1 Kb2:ah U El):ak X (cdp [1,1,1,0,1,0,0] bd) .d (fr2 l0 p2 bA aA) (ap nm2 Kb2) (aC 0 (ap nm1 Kb1) (fun _ _=>none)) RR=sh2 l0 p2 bA aA (Kb1 (fr1)) (fun y0 y1 y2 y3=>Kb2 (fr2 y0 y1 y2 y3)):=by kernel_rfl
noncomputable def f1:R:=sh1
noncomputable def f2:Nat→Y2
  | 0=>fun _ _ _ _=>none
  | n+1=>fun l0 p2 bA aA=>sh2 l0 p2 bA aA f1 (f2 n)
noncomputable def f0 (l:List Work) (crews:Int) (p:List Slot):R:=sh0 l crews p (f2 100000)
theorem T1:(hid ct1) (fr1)=f1:=by
  refine (congrFun (am _) _).trans <| (P1).trans ?_
  show _=sh1
  rfl
theorem T2:∀ (n:Nat),∀ l0 p2 bA aA,it2 (hid ct1) n (fr2 l0 p2 bA aA)=f2 n l0 p2 bA aA:=by
  intro n
  induction n with
  | zero=>intros; rfl
  | succ n ih =>
    intro l0 p2 bA aA
    refine (P2 l0 p2 bA aA (hid ct1) (it2 (hid ct1) n)).trans ?_
    show _=sh2 l0 p2 bA aA f1 (f2 n)
    simp only [T1,ih]
theorem H2 (l0 p2 bA aA):hid (it2 (hid ct1) 100000) (fr2 l0 p2 bA aA)=f2 100000 l0 p2 bA aA:=(congrFun (am _) _).trans (T2 100000 l0 p2 bA aA)
theorem T0 (l crews p):ak X bd (.seq none .d (.seq none .d (.seq none .d (.seq (some nm1) (.seq none .d (.block (.loop nm2 .d))) .d)))) (fr0 l crews p) RR (fun _ _=>none) RR=f0 l crews p:=by
  refine (P0 l crews p).trans ?_
  show _=sh0 l crews p (f2 100000)
  simp only [H2]
theorem run (l crews p):aS X bd (.seq none .d (.seq none .d (.seq none .d (.seq (some nm1) (.seq none .d (.block (.loop nm2 .d))) .d)))) nmR [6,7] [] [(.lst .work l),(.int .i64 crews),(.lst .slot p)]=f0 l crews p:=T0 l crews p
theorem loop (l:List Work) (p:List Slot) (hp:p.length≤200) (hok:∀ k,k < p.length→okF l p (k:Int)=true):∀ (n k:Nat),p.length < n+k→k≤p.length→f2 n l p (Int.ofNat p.length) (k:Int)=qY (hI l p (p.length - k) k):=by
  intro n
  induction n with
  | zero=>intro k h1 h2; omega
  | succ n ih =>
    intro k h1 h2
    show sh2 l p (Int.ofNat p.length) (k:Int) f1 (f2 n)=_
    unfold sh2
    by_cases hk:k < p.length
    · rw [bf (by simp; omega), hok k hk, bl k (by omega), ih (k + 1) (by omega) hk, show p.length - k = (p.length - (k + 1)) + 1 by omega]
      simp only [hI,bm,bn]
      cases (bG l p (k:Int) != 0)<;>rfl
    · have : k = p.length := by omega
      subst this
      rw [a6 (by simp),Nat.sub_self]
      rfl
theorem f0_eq (l:List Work) (crews:Int) (p:List Slot) (h:okV l=true):f0 l crews p=qY (az l crews p,eU l crews p):=by
  show sh0 l crews p (f2 100000)=_
  unfold sh0 az eU jx
  rw [h]
  cases hv:bF l crews
  case false=>rfl
  cases hne:(Int.ofNat p.length != Int.ofNat l.length)
  case true=>rfl
  have hp:p.length=l.length:=Int.ofNat.inj (by simpa only [bne_eq_false_iff_eq] using hne)
  have hl:=(dJ h).1
  exact loop l p (by omega) (fun k hk=>kp h hv hp (by omega)) 100000 0 (by omega) (by omega)
theorem ok:CtxOk Tryz.prog X:=aO tab (spC valid.spOk (spC fault.spOk spN)) dpN
theorem okM:MOk Tryz.prog X:=fun g sp h=>by cases h
theorem spec (l:List Work) (crews:Int) (p:List Slot) (h:(okV l)=true):ar Tryz.prog E 17 [(.lst .work l),(.int .i64 crews),(.lst .slot p)] (.tup [(.int .i64 (az l crews p)),(.int .i64 (eU l crews p))]) [] :=
  al ok okM Tryz.call17 Tryz.func17 (by kernel_rfl) (by kernel_rfl) (by kernel_rfl) (by show 3≤33; decide) (by decide) (by rfl) ((run l crews p).trans (f0_eq l crews p h))
noncomputable def sp:Sp U El:=fun args k=>match args with
  | [.lst .work l,.int .i64 crews,.lst .slot p]=>chk (okV l) (k (.tup [(.int .i64 (az l crews p)),(.int .i64 (eU l crews p))]) [])
  | _=>none
theorem spOk:SpOk Tryz.prog E 17 sp where
  det:=fun vs=>by
    unfold sp
    split
    · exact ba _ _ _
    · exact ⟨none,fun _=>rfl⟩
  ok:=fun vs k r h=>by
    unfold sp at h
    split at h
    · obtain ⟨h1, h2⟩ := ae h
      exact ⟨_,_,spec _ _ _ h1,h2⟩
    · cases h
end check
namespace rcheck
noncomputable def bd:Code:=(Tryz.f11.body).getD .skip
noncomputable def X:Ctx U El:=⟨E,tds,zeros,eqs,aH [(47,rvalid.sp),(48,rfault.sp)],100000,33,aB [],fun _=>none⟩
noncomputable def nmR:Norm U:=⟨[],[6,7],[],[],[],[],[]⟩
noncomputable def RR:ah U El:=fun st=>aL nmR st (aG [6,7] [])
noncomputable def nm1:Norm U:=⟨[],[],[],[],[],[],[]⟩
noncomputable def nm2:Norm U:=⟨[],[0,2,8],[],[],[],[],[]⟩
abbrev Y1:=R
abbrev Y2:=(List Work)→(List Slot)→Int→R
noncomputable def fr0 (l:List Work) (crews:Int) (p:List Slot):St U El:=⟨[(0,(.lst .work l)),(1,(.int .i64 crews)),(2,(.lst .slot p))],[]⟩
noncomputable def fr1:St U El:=⟨[],[]⟩
noncomputable def fr2 (l0:List Work) (p2:List Slot) (i8:Int):St U El:=⟨[(0,(.lst .work l0)),(2,(.lst .slot p2)),(8,(.int .i64 i8))],[]⟩
noncomputable def sh0 (l:List Work) (crews:Int) (p:List Slot) (k2:Y2):R :=
  chk (okV l) (af (!(bF l crews)) (some ((.tup [(.int .i64 (1:Int)),(.int .i64 (-1:Int))]),[])) (af ((Int.ofNat (List.length p)) != (Int.ofNat (List.length l))) (some ((.tup [(.int .i64 (3:Int)),(.int .i64 (-1:Int))]),[])) (k2 l p (0:Int))))
noncomputable def sh1:R :=
  some ((.tup [(.int .i64 (0:Int)),(.int .i64 (-1:Int))]),[])
noncomputable def sh2 (l0:List Work) (p2:List Slot) (i8:Int) (k1:Y1) (k2:Y2):R :=
  af (ilt i8 (Int.ofNat (List.length p2))) (chk (okF l0 p2 i8) (af ((bG l0 p2 i8) != (0:Int)) (some ((.tup [(.int .i64 (bG l0 p2 i8)),(.int .i64 i8)]),[])) (k2 l0 p2 (IntKind.wrap .i64 (i8+(1:Int)))))) (k1)
noncomputable def it2 (Kb1:ah U El) (n:Nat):ah U El:=bD nm2 (fun st' K'=>ak X (cdp [1,1,1,0,1,0,0] bd) .d st' K' (aC 0 (ap nm1 Kb1) (fun _ _=>none)) RR) n
noncomputable def ct1:ah U El:=fun st=>ak X (cdp [1,1,1,1] bd) .d st RR (fun _ _=>none) RR
theorem P0 (l crews p):ak X (cdp [] bd) (.seq none .d (.seq none .d (.seq none .d (.seq (some nm1) (.seq none .d (.block (.loop nm2 .d))) .d)))) (fr0 l crews p) RR (fun _ _=>none) RR=sh0 l crews p (fun y0 y1 y2=>(hid (it2 (hid ct1) 100000)) (fr2 y0 y1 y2)):=by kernel_rfl
theorem P1:ct1 (fr1)=sh1:=by kernel_rfl
theorem P2 (l0 p2 i8) (Kb1 Kb2:ah U El):ak X (cdp [1,1,1,0,1,0,0] bd) .d (fr2 l0 p2 i8) (ap nm2 Kb2) (aC 0 (ap nm1 Kb1) (fun _ _=>none)) RR=sh2 l0 p2 i8 (Kb1 (fr1)) (fun y0 y1 y2=>Kb2 (fr2 y0 y1 y2)):=by kernel_rfl
noncomputable def f1:R:=sh1
noncomputable def f2:Nat→Y2
  | 0=>fun _ _ _=>none
  | n+1=>fun l0 p2 i8=>sh2 l0 p2 i8 f1 (f2 n)
noncomputable def f0 (l:List Work) (crews:Int) (p:List Slot):R:=sh0 l crews p (f2 100000)
theorem T1:(hid ct1) (fr1)=f1:=by
  refine (congrFun (am _) _).trans <| (P1).trans ?_
  show _=sh1
  rfl
theorem T2:∀ (n:Nat),∀ l0 p2 i8,it2 (hid ct1) n (fr2 l0 p2 i8)=f2 n l0 p2 i8:=by
  intro n
  induction n with
  | zero=>intros; rfl
  | succ n ih =>
    intro l0 p2 i8
    refine (P2 l0 p2 i8 (hid ct1) (it2 (hid ct1) n)).trans ?_
    show _=sh2 l0 p2 i8 f1 (f2 n)
    simp only [T1,ih]
theorem H2 (l0 p2 i8):hid (it2 (hid ct1) 100000) (fr2 l0 p2 i8)=f2 100000 l0 p2 i8:=(congrFun (am _) _).trans (T2 100000 l0 p2 i8)
theorem T0 (l crews p):ak X bd (.seq none .d (.seq none .d (.seq none .d (.seq (some nm1) (.seq none .d (.block (.loop nm2 .d))) .d)))) (fr0 l crews p) RR (fun _ _=>none) RR=f0 l crews p:=by
  refine (P0 l crews p).trans ?_
  show _=sh0 l crews p (f2 100000)
  simp only [H2]
theorem run (l crews p):aS X bd (.seq none .d (.seq none .d (.seq none .d (.seq (some nm1) (.seq none .d (.block (.loop nm2 .d))) .d)))) nmR [6,7] [] [(.lst .work l),(.int .i64 crews),(.lst .slot p)]=f0 l crews p:=T0 l crews p
theorem loop (l:List Work) (p:List Slot) (hp:p.length≤200) (hok:∀ k,k < p.length→okF l p (k:Int)=true):∀ (n k:Nat),p.length < n+k→k≤p.length→f2 n l p (k:Int)=qY (hI l p (p.length - k) k):=by
  intro n
  induction n with
  | zero=>intro k h1 h2; omega
  | succ n ih =>
    intro k h1 h2
    show sh2 l p (k:Int) f1 (f2 n)=_
    unfold sh2
    by_cases hk:k < p.length
    · rw [bf (by simp; omega), hok k hk, bl k (by omega), ih (k + 1) (by omega) hk, show p.length - k = (p.length - (k + 1)) + 1 by omega]
      simp only [hI,bm,bn]
      cases (bG l p (k:Int) != 0)<;>rfl
    · have : k = p.length := by omega
      subst this
      rw [a6 (by simp),Nat.sub_self]
      rfl
theorem f0_eq (l:List Work) (crews:Int) (p:List Slot) (h:okV l=true):f0 l crews p=qY (az l crews p,eU l crews p):=by
  show sh0 l crews p (f2 100000)=_
  unfold sh0 az eU jx
  rw [h]
  cases hv:bF l crews
  case false=>rfl
  cases hne:(Int.ofNat p.length != Int.ofNat l.length)
  case true=>rfl
  have hp:p.length=l.length:=Int.ofNat.inj (by simpa only [bne_eq_false_iff_eq] using hne)
  have hl:=(dJ h).1
  exact loop l p (by omega) (fun k hk=>kp h hv hp (by omega)) 100000 0 (by omega) (by omega)
theorem ok:CtxOk Tryz.prog X:=aO tab (spC rvalid.spOk (spC rfault.spOk spN)) dpN
theorem okM:MOk Tryz.prog X:=fun g sp h=>by cases h
theorem spec (l:List Work) (crews:Int) (p:List Slot) (h:(okV l)=true):ar Tryz.prog E 11 [(.lst .work l),(.int .i64 crews),(.lst .slot p)] (.tup [(.int .i64 (az l crews p)),(.int .i64 (eU l crews p))]) [] :=
  al ok okM Tryz.call11 Tryz.func11 (by kernel_rfl) (by kernel_rfl) (by kernel_rfl) (by show 3≤33; decide) (by decide) (by rfl) ((run l crews p).trans (f0_eq l crews p h))
noncomputable def sp:Sp U El:=fun args k=>match args with
  | [.lst .work l,.int .i64 crews,.lst .slot p]=>chk (okV l) (k (.tup [(.int .i64 (az l crews p)),(.int .i64 (eU l crews p))]) [])
  | _=>none
theorem spOk:SpOk Tryz.prog E 11 sp where
  det:=fun vs=>by
    unfold sp
    split
    · exact ba _ _ _
    · exact ⟨none,fun _=>rfl⟩
  ok:=fun vs k r h=>by
    unfold sp at h
    split at h
    · obtain ⟨h1, h2⟩ := ae h
      exact ⟨_,_,spec _ _ _ h1,h2⟩
    · cases h
end rcheck
theorem oT {l:List Work} (h:dN l=false):okV l=true:=by
  simp only [dN,Bool.or_eq_false_iff] at h
  obtain ⟨_,h2,h3⟩:=h
  have hl:=mb h2
  simp only [okV,Bool.and_eq_true]
  refine ⟨bz (by simp at hl; omega),List.all_eq_true.2 fun w hw => ?_⟩
  have hf:ew w=false:=by
    cases hq:ew w with
    | false=>rfl
    | true=>rw [List.any_eq_true.2 ⟨w,hw,hq⟩] at h3; cases h3
  simp only [ew,Bool.or_eq_false_iff] at hf
  have q1:=mb hf.1
  have q2:=mb hf.2.1
  simp at q1 q2
  simp only [Bool.and_eq_true]
  exact ⟨bz (by omega),bz (by omega)⟩
end Go.Proofs.YthdklallcljhlaaGreatDoor
