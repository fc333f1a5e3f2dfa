/- Check of the code and of the document. -/
import Derived.Test.YthdklallcljhlaaVG
namespace Go.Proofs.Ythdklallcljhlaa
set_option linter.unusedSectionVars false
set_option linter.unusedSimpArgs false
set_option linter.unusedVariables false
set_option maxRecDepth 100000
noncomputable def findF (l:List Work) (p:List Slot):Nat→Nat→Int×Int
  | 0,_=>(0,-1)
  | n+1,k=>bif faultZ l p (k:Int) != 0 then (faultZ l p (k:Int),(k:Int)) else findF l p n (k+1)
noncomputable def checkP (l:List Work) (crews:Int) (p:List Slot):Int×Int:=bif !(validB l crews) then (1,-1) else bif Int.ofNat p.length != Int.ofNat l.length then (3,-1) else findF l p p.length 0
noncomputable def checkE (l:List Work) (crews:Int) (p:List Slot):Int:=(checkP l crews p).1
noncomputable def checkI (l:List Work) (crews:Int) (p:List Slot):Int:=(checkP l crews p).2
theorem wk_wh {n crews:Int} {dup:Bool} {w:Work} (h:wk n crews dup w=true):1≤w.wh∧w.wh≤1000:=by
  simp only [wk,Bool.and_eq_true] at h
  exact ⟨ileI h.2.2.1.1,ileI h.2.2.1.2⟩
theorem goodW_wh {n crews:Int}:∀ {l seen:List Work},goodW n crews seen l=true→∀ w∈l,1≤w.wh∧w.wh≤1000:=by
  intro l
  induction l with
  | nil=>intro seen _ w hw; cases hw
  | cons x l ih =>
    intro seen h w hw
    simp only [goodW,Bool.and_eq_true] at h
    rcases List.mem_cons.1 hw with rfl | hw
    · exact wk_wh h.1
    · exact ih h.2 w hw
theorem valid_okF {l:List Work} {crews:Int} {p:List Slot} (hv:okV l=true) (h:validB l crews=true) (hp:p.length=l.length) {k:Nat} (hk:k < l.length):okF l p (k:Int)=true:=by
  simp only [validB,Bool.and_eq_true] at h
  obtain ⟨_,_,hg,_⟩:=h
  simp only [okF,Bool.and_eq_true]
  refine ⟨good_okO hv hg,List.all_eq_true.2 fun w hw => ?_,?_,inbT hk⟩
  · obtain ⟨q1, q2⟩ := goodW_wh hg w hw
    simp only [Bool.and_eq_true]
    exact ⟨nleT ((okV_len hv).2 w hw).2,ileT (by omega),ileT q2⟩
  · rw [hp]; exact Nat.beq_refl _
noncomputable def outP (q:Int×Int):R:=some ((.tup [(.int .i64 q.1),(.int .i64 q.2)]),[])
namespace check
noncomputable def bd:Code:=(Try.f11.body).getD .skip
noncomputable def X:Ctx U El:=⟨E,tds,zeros,eqs,specOf [(13,valid.sp),(32,fault.sp)],100000,33,dspecOf [],fun _=>none⟩
noncomputable def nmR:Norm U:=⟨[],[6,7],[],[],[],[],[]⟩
noncomputable def RR:Kont U El:=fun st=>normK nmR st (retFin [6,7] [])
noncomputable def nm1:Norm U:=⟨[],[],[],[],[],[],[]⟩
noncomputable def nm2:Norm U:=⟨[],[0,2,20,21],[],[],[],[],[]⟩
abbrev Y1:=R
abbrev Y2:=(List Work)→(List Slot)→Int→Int→R
noncomputable def fr0 (l:List Work) (crews:Int) (p:List Slot):St U El:=⟨[(0,(.lst .work l)),(1,(.int .i64 crews)),(2,(.lst .slot p))],[]⟩
noncomputable def fr1:St U El:=⟨[],[]⟩
noncomputable def fr2 (l0:List Work) (p2:List Slot) (bA:Int) (aA:Int):St U El:=⟨[(0,(.lst .work l0)),(2,(.lst .slot p2)),(20,(.int .i64 bA)),(21,(.int .i64 aA))],[]⟩
noncomputable def sh0 (l:List Work) (crews:Int) (p:List Slot) (k2:Y2):R :=
  chk (okV l) (condB (!(validB l crews)) (some ((.tup [(.int .i64 (1:Int)),(.int .i64 (-1:Int))]),[])) (condB ((Int.ofNat (List.length p)) != (Int.ofNat (List.length l))) (some ((.tup [(.int .i64 (3:Int)),(.int .i64 (-1:Int))]),[])) (k2 l p (Int.ofNat (List.length p)) (0:Int))))
noncomputable def sh1:R :=
  some ((.tup [(.int .i64 (0:Int)),(.int .i64 (-1:Int))]),[])
noncomputable def sh2 (l0:List Work) (p2:List Slot) (bA:Int) (aA:Int) (k1:Y1) (k2:Y2):R :=
  condB (ilt aA bA) (chk (okF l0 p2 aA) (condB ((faultZ l0 p2 aA) != (0:Int)) (some ((.tup [(.int .i64 (faultZ l0 p2 aA)),(.int .i64 aA)]),[])) (k2 l0 p2 bA (IntKind.wrap .i64 (aA+(1:Int)))))) (k1)
noncomputable def it2 (Kb1:Kont U El) (n:Nat):Kont U El:=iter nm2 (fun st' K'=>exec X (cdp [1,1,1,0,1,0,0] bd) .d st' K' (Eblk 0 (cutK nm1 Kb1) (fun _ _=>none)) RR) n
noncomputable def ct1:Kont U El:=fun st=>exec X (cdp [1,1,1,1] bd) .d st RR (fun _ _=>none) RR
theorem P0 (l crews p):exec X (cdp [] bd) (.seq none .d (.seq none .d (.seq none .d (.seq (some nm1) (.seq none .d (.block (.loop nm2 .d))) .d)))) (fr0 l crews p) RR (fun _ _=>none) RR=sh0 l crews p (fun y0 y1 y2 y3=>(hid (it2 (hid ct1) 100000)) (fr2 y0 y1 y2 y3)):=by kernel_rfl
theorem P1:ct1 (fr1)=sh1:=by kernel_rfl
theorem P2 (l0 p2 bA aA) (Kb1 Kb2:Kont U El):exec X (cdp [1,1,1,0,1,0,0] bd) .d (fr2 l0 p2 bA aA) (cutK nm2 Kb2) (Eblk 0 (cutK nm1 Kb1) (fun _ _=>none)) RR=sh2 l0 p2 bA aA (Kb1 (fr1)) (fun y0 y1 y2 y3=>Kb2 (fr2 y0 y1 y2 y3)):=by kernel_rfl
noncomputable def f1:R:=sh1
noncomputable def f2:Nat→Y2
  | 0=>fun _ _ _ _=>none
  | n+1=>fun l0 p2 bA aA=>sh2 l0 p2 bA aA f1 (f2 n)
noncomputable def f0 (l:List Work) (crews:Int) (p:List Slot):R:=sh0 l crews p (f2 100000)
theorem T1:(hid ct1) (fr1)=f1:=by
  refine (congrFun (hid_eq _) _).trans <| (P1).trans ?_
  show _=sh1
  rfl
theorem T2:∀ (n:Nat),∀ l0 p2 bA aA,it2 (hid ct1) n (fr2 l0 p2 bA aA)=f2 n l0 p2 bA aA:=by
  intro n
  induction n with
  | zero=>intros; rfl
  | succ n ih =>
    intro l0 p2 bA aA
    refine (P2 l0 p2 bA aA (hid ct1) (it2 (hid ct1) n)).trans ?_
    show _=sh2 l0 p2 bA aA f1 (f2 n)
    simp only [T1,ih]
theorem H2 (l0 p2 bA aA):hid (it2 (hid ct1) 100000) (fr2 l0 p2 bA aA)=f2 100000 l0 p2 bA aA:=(congrFun (hid_eq _) _).trans (T2 100000 l0 p2 bA aA)
theorem T0 (l crews p):exec X bd (.seq none .d (.seq none .d (.seq none .d (.seq (some nm1) (.seq none .d (.block (.loop nm2 .d))) .d)))) (fr0 l crews p) RR (fun _ _=>none) RR=f0 l crews p:=by
  refine (P0 l crews p).trans ?_
  show _=sh0 l crews p (f2 100000)
  simp only [H2]
theorem run (l crews p):runFn X bd (.seq none .d (.seq none .d (.seq none .d (.seq (some nm1) (.seq none .d (.block (.loop nm2 .d))) .d)))) nmR [6,7] [] [(.lst .work l),(.int .i64 crews),(.lst .slot p)]=f0 l crews p:=T0 l crews p
theorem loop (l:List Work) (p:List Slot) (hp:p.length≤200) (hok:∀ k,k < p.length→okF l p (k:Int)=true):∀ (n k:Nat),p.length < n+k→k≤p.length→f2 n l p (Int.ofNat p.length) (k:Int)=outP (findF l p (p.length - k) k):=by
  intro n
  induction n with
  | zero=>intro k h1 h2; omega
  | succ n ih =>
    intro k h1 h2
    show sh2 l p (Int.ofNat p.length) (k:Int) f1 (f2 n)=_
    unfold sh2
    by_cases hk:k < p.length
    · rw [iltT (by simp; omega), hok k hk, wrapS k (by omega), ih (k + 1) (by omega) hk, show p.length - k = (p.length - (k + 1)) + 1 by omega]
      simp only [findF,condT,chkT]
      cases (faultZ l p (k:Int) != 0)<;>rfl
    · have : k = p.length := by omega
      subst this
      rw [iltF (by simp),Nat.sub_self]
      rfl
theorem f0_eq (l:List Work) (crews:Int) (p:List Slot) (h:okV l=true):f0 l crews p=outP (checkE l crews p,checkI l crews p):=by
  show sh0 l crews p (f2 100000)=_
  unfold sh0 checkE checkI checkP
  rw [h]
  cases hv:validB l crews
  case false=>rfl
  cases hne:(Int.ofNat p.length != Int.ofNat l.length)
  case true=>rfl
  have hp:p.length=l.length:=Int.ofNat.inj (by simpa only [bne_eq_false_iff_eq] using hne)
  have hl:=(okV_len h).1
  exact loop l p (by omega) (fun k hk=>valid_okF h hv hp (by omega)) 100000 0 (by omega) (by omega)
theorem ok:CtxOk Try.prog X:=ctxOk tab (spC valid.spOk (spC fault.spOk spN)) dpN
theorem okM:MOk Try.prog X:=fun g sp h=>by cases h
theorem spec (l:List Work) (crews:Int) (p:List Slot) (h:(okV l)=true):CallSpec Try.prog E 11 [(.lst .work l),(.int .i64 crews),(.lst .slot p)] (.tup [(.int .i64 (checkE l crews p)),(.int .i64 (checkI l crews p))]) [] :=
  runFn_sound ok okM Try.call11 Try.func11 (by kernel_rfl) (by kernel_rfl) (by kernel_rfl) (by show 3≤33; decide) (by decide) (by rfl) ((run l crews p).trans (f0_eq l crews p h))
noncomputable def sp:Sp U El:=fun args k=>match args with
  | [.lst .work l,.int .i64 crews,.lst .slot p]=>chk (okV l) (k (.tup [(.int .i64 (checkE l crews p)),(.int .i64 (checkI l crews p))]) [])
  | _=>none
theorem spOk:SpOk Try.prog E 11 sp where
  det:=fun vs=>by
    unfold sp
    split
    · exact det_c _ _ _
    · exact ⟨none,fun _=>rfl⟩
  ok:=fun vs k r h=>by
    unfold sp at h
    split at h
    · obtain ⟨h1, h2⟩ := chk_some h
      exact ⟨_,_,spec _ _ _ h1,h2⟩
    · cases h
end check
theorem large_okV {l:List Work} (h:largeB l=false):okV l=true:=by
  simp only [largeB,Bool.or_eq_false_iff] at h
  obtain ⟨_,h2,h3⟩:=h
  have hl:=iltN h2
  simp only [okV,Bool.and_eq_true]
  refine ⟨nleT (by simp at hl; omega),List.all_eq_true.2 fun w hw => ?_⟩
  have hf:fatW w=false:=by
    cases hq:fatW w with
    | false=>rfl
    | true=>rw [List.any_eq_true.2 ⟨w,hw,hq⟩] at h3; cases h3
  simp only [fatW,Bool.or_eq_false_iff] at hf
  have q1:=iltN hf.1
  have q2:=iltN hf.2.1
  simp at q1 q2
  simp only [Bool.and_eq_true]
  exact ⟨nleT (by omega),nleT (by omega)⟩
end Go.Proofs.Ythdklallcljhlaa
