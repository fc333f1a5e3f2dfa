/- The document's answer: what is given, what holds, what fires; the law RulesFires. -/
import Derived.Test.YtlkfbblapimhoaaGreatDoorVB
import Derived.Test.YtlkfbblapimhoaaGreatDoorAW
namespace Go.Proofs.YtlkfbblapimhoaaGreatDoor
set_option linter.unusedSectionVars false
set_option linter.unusedSimpArgs false
set_option linter.unusedVariables false
set_option maxRecDepth 100000
theorem ilt_ile0 (z:Int):ilt z 0 = !(ile 0 z):=by rw [not_ile]
theorem any_elem (s:List UInt8) (l:List (List UInt8)):List.any l (fun x=>x == s)=List.elem s l:=by
  rw [Bool.eq_iff_iff]
  simp
namespace rfind
noncomputable def bd:Code:=(Tryz.f71.body).getD .skip
noncomputable def X:Ctx U El:=⟨E,tds,zeros,eqs,specOf [],100000,19,dspecOf [],fun _=>none⟩
noncomputable def nmR:Norm U:=⟨[],[4],[],[],[],[],[]⟩
noncomputable def RR:Kont U El:=fun st=>normK nmR st (retFin [4] [])
noncomputable def nm1:Norm U:=⟨[],[],[],[],[],[],[]⟩
noncomputable def nm2:Norm U:=⟨[],[0,1,5],[],[],[],[],[]⟩
abbrev Y1:=R
abbrev Y2:=(List (List UInt8))→(List UInt8)→Int→R
noncomputable def fr0 (l:List (List UInt8)) (s:List UInt8):St U El:=⟨[(0,(.lst .str l)),(1,(.str s))],[]⟩
noncomputable def fr1:St U El:=⟨[],[]⟩
noncomputable def fr2 (l0:List (List UInt8)) (s1:List UInt8) (i5:Int):St U El:=⟨[(0,(.lst .str l0)),(1,(.str s1)),(5,(.int .i64 i5))],[]⟩
noncomputable def sh0 (l:List (List UInt8)) (s:List UInt8) (k2:Y2):R :=
  k2 l s (0:Int)
noncomputable def sh1:R :=
  some ((.int .i64 (-1:Int)),[])
noncomputable def sh2 (l0:List (List UInt8)) (s1:List UInt8) (i5:Int) (k1:Y1) (k2:Y2):R :=
  condB (ilt i5 (Int.ofNat (List.length l0))) (chk (inb i5 (List.length l0)) (condB ((List.getD l0 (Int.toNat i5) d_str) == s1) (some ((.int .i64 i5),[])) (k2 l0 s1 (IntKind.wrap .i64 (i5+(1:Int)))))) (k1)
noncomputable def it2 (Kb1:Kont U El) (n:Nat):Kont U El:=iter nm2 (fun st' K'=>exec X (cdp [1,0,1,0,0] bd) .d st' K' (Eblk 0 (cutK nm1 Kb1) (fun _ _=>none)) RR) n
noncomputable def ct1:Kont U El:=fun st=>exec X (cdp [1,1] bd) .d st RR (fun _ _=>none) RR
theorem P0 (l s):exec X (cdp [] bd) (.seq none .d (.seq (some nm1) (.seq none .d (.block (.loop nm2 .d))) .d)) (fr0 l s) RR (fun _ _=>none) RR=sh0 l s (fun y0 y1 y2=>(hid (it2 (hid ct1) 100000)) (fr2 y0 y1 y2)):=by kernel_rfl
theorem P1:ct1 (fr1)=sh1:=by kernel_rfl
theorem P2 (l0 s1 i5) (Kb1 Kb2:Kont U El):exec X (cdp [1,0,1,0,0] bd) .d (fr2 l0 s1 i5) (cutK nm2 Kb2) (Eblk 0 (cutK nm1 Kb1) (fun _ _=>none)) RR=sh2 l0 s1 i5 (Kb1 (fr1)) (fun y0 y1 y2=>Kb2 (fr2 y0 y1 y2)):=by kernel_rfl
noncomputable def f1:R:=sh1
noncomputable def f2:Nat→Y2
  | 0=>fun _ _ _=>none
  | n+1=>fun l0 s1 i5=>sh2 l0 s1 i5 f1 (f2 n)
noncomputable def f0 (l:List (List UInt8)) (s:List UInt8):R:=sh0 l s (f2 100000)
theorem T1:(hid ct1) (fr1)=f1:=by
  refine (congrFun (hid_eq _) _).trans <| (P1).trans ?_
  show _=sh1
  rfl
theorem T2:∀ (n:Nat),∀ l0 s1 i5,it2 (hid ct1) n (fr2 l0 s1 i5)=f2 n l0 s1 i5:=by
  intro n
  induction n with
  | zero=>intros; rfl
  | succ n ih =>
    intro l0 s1 i5
    refine (P2 l0 s1 i5 (hid ct1) (it2 (hid ct1) n)).trans ?_
    show _=sh2 l0 s1 i5 f1 (f2 n)
    simp only [T1,ih]
theorem H2 (l0 s1 i5):hid (it2 (hid ct1) 100000) (fr2 l0 s1 i5)=f2 100000 l0 s1 i5:=(congrFun (hid_eq _) _).trans (T2 100000 l0 s1 i5)
theorem T0 (l s):exec X bd (.seq none .d (.seq (some nm1) (.seq none .d (.block (.loop nm2 .d))) .d)) (fr0 l s) RR (fun _ _=>none) RR=f0 l s:=by
  refine (P0 l s).trans ?_
  show _=sh0 l s (f2 100000)
  simp only [H2]
theorem run (l s):runFn X bd (.seq none .d (.seq (some nm1) (.seq none .d (.block (.loop nm2 .d))) .d)) nmR [4] [] [(.lst .str l),(.str s)]=f0 l s:=T0 l s
theorem f0_eq (l:List (List UInt8)) (s:List UInt8) (h:nle (List.length l) 90000=true):f0 l s=outI (findZ (fun x=>x == s) 0 l):=by
  have hl:=nleI h
  refine (grun_eq l (by omega) (fun n_ (_:Unit) i_=>f2 n_ l s i_) _ (fun _=>outI (-1)) (fun n_ u_ i_ hi_ => ?_) (fun n_ u_ => ?_) 100000 0 () (by omega) (by omega)).trans (grun_find (fun x=>x == s) outI l 0)
  · show sh2 l s i_ f1 (f2 n_) = _
    unfold sh2
    rw [iltT (by simp; omega),inbT hi_,toNat_nat,getD_lt hi_]
    rfl
  · show sh2 l s (l.length : Int) f1 (f2 n_) = _
    unfold sh2
    rw [iltF (by simp)]
    rfl
theorem ok:CtxOk Tryz.prog X:=ctxOk tab spN dpN
theorem okM:MOk Tryz.prog X:=fun g sp h=>by cases h
theorem spec (l:List (List UInt8)) (s:List UInt8) (h:(nle (List.length l) 90000)=true):CallSpec Tryz.prog E 71 [(.lst .str l),(.str s)] (.int .i64 (findZ (fun x=>x == s) 0 l)) [] :=
  runFn_sound ok okM Tryz.call71 Tryz.func71 (by kernel_rfl) (by kernel_rfl) (by kernel_rfl) (by show 2≤19; decide) (by decide) (by rfl) ((run l s).trans (f0_eq l s h))
noncomputable def sp:Sp U El:=fun args k=>match args with
  | [.lst .str l,.str s]=>chk (nle (List.length l) 90000) (k (.int .i64 (findZ (fun x=>x == s) 0 l)) [])
  | _=>none
theorem spOk:SpOk Tryz.prog E 71 sp where
  det:=fun vs=>by
    unfold sp
    split
    · exact det_c _ _ _
    · exact ⟨none,fun _=>rfl⟩
  ok:=fun vs k r h=>by
    unfold sp at h
    split at h
    · obtain ⟨h1, h2⟩ := chk_some h
      exact ⟨_,_,spec _ _ h1,h2⟩
    · cases h
end rfind
theorem find_elem (s:List UInt8) (l:List (List UInt8)):ile 0 (findZ (fun x=>x == s) 0 l)=List.elem s l:=by rw [findZ_any,any_elem]
end Go.Proofs.YtlkfbblapimhoaaGreatDoor
