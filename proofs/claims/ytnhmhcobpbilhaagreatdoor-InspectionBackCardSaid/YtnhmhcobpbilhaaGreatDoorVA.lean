/- points: what a code counts. -/
import Derived.Test.YtnhmhcobpbilhaaGreatDoorNM
namespace Go.Proofs.YtnhmhcobpbilhaaGreatDoor
variable [Drw]
set_option linter.unusedSectionVars false
set_option linter.unusedSimpArgs false
set_option linter.unusedVariables false
set_option maxRecDepth 100000
noncomputable def pointsZ (c:List UInt8):Int :=
  bif c == [67,82] then 2 else bif c == [70,82] then 5 else bif c == [66,82] then 20 else bif c == [68,74]||c == [73,78] then 3
  else bif c == [82,79]||c == [67,79] then 4 else bif c == [68,69] then 1 else bif c == [79,66] then 6 else 0
namespace points
noncomputable def bd:Code:=(Tryz.f50.body).getD .skip
noncomputable def X:Ctx U El:=⟨E,tds,zeros,eqs,specOf [],100000,20,dspecOf [],fun _=>none⟩
noncomputable def nmR:Norm U:=⟨[],[2],[],[],[],[],[]⟩
noncomputable def RR:Kont U El:=fun st=>normK nmR st (retFin [2] [])
noncomputable def nm1:Norm U:=⟨[],[3,10],[],[],[],[],[]⟩
noncomputable def nm2:Norm U:=⟨[],[3,13],[],[],[],[],[]⟩
abbrev Y1:=(List UInt8)→Bool→R
abbrev Y2:=(List UInt8)→Bool→R
noncomputable def fr0 (c:List UInt8):St U El:=⟨[(0,(.str c))],[]⟩
noncomputable def fr1 (x3:List UInt8) (aA:Bool):St U El:=⟨[(3,(.str x3)),(10,(.bool aA))],[]⟩
noncomputable def fr2 (x3:List UInt8) (bA:Bool):St U El:=⟨[(3,(.str x3)),(13,(.bool bA))],[]⟩
noncomputable def sh0 (c:List UInt8) (k1:Y1):R :=
  condB (c == ([67,82]:List UInt8)) (some ((.int .i64 (2:Int)),[])) (condB (c == ([70,82]:List UInt8)) (some ((.int .i64 (5:Int)),[])) (condB (c == ([66,82]:List UInt8)) (some ((.int .i64 (20:Int)),[])) (condB (c == ([68,74]:List UInt8)) (k1 c true) (k1 c (c == ([73,78]:List UInt8))))))
noncomputable def sh1 (x3:List UInt8) (aA:Bool) (k2:Y2):R :=
  condB aA (some ((.int .i64 (3:Int)),[])) (condB (x3 == ([82,79]:List UInt8)) (k2 x3 true) (k2 x3 (x3 == ([67,79]:List UInt8))))
noncomputable def sh2 (x3:List UInt8) (bA:Bool):R :=
  condB bA (some ((.int .i64 (4:Int)),[])) (condB (x3 == ([68,69]:List UInt8)) (some ((.int .i64 (1:Int)),[])) (condB (x3 == ([79,66]:List UInt8)) (some ((.int .i64 (6:Int)),[])) (some ((.int .i64 (0:Int)),[]))))
noncomputable def ct1:Kont U El:=fun st=>exec X (cdp [1,0,1,0,1,1,1,1,1,1,1] bd) (.cond .d (.seq (some nm2) .d .d)) st (fun st'=>exec X (cdp [1,1] bd) .d st' RR (fun _ _=>none) RR) (Eblk 0 (fun st'=>exec X (cdp [1,1] bd) .d st' RR (fun _ _=>none) RR) (fun _ _=>none)) RR
noncomputable def ct2:Kont U El:=fun st=>exec X (cdp [1,0,1,0,1,1,1,1,1,1,1,1,1] bd) .d st (fun st'=>exec X (cdp [1,1] bd) .d st' RR (fun _ _=>none) RR) (Eblk 0 (fun st'=>exec X (cdp [1,1] bd) .d st' RR (fun _ _=>none) RR) (fun _ _=>none)) RR
theorem P0 (c):exec X (cdp [] bd) (.seq none .d (.seq none (.seq none .d (.block (.seq none .d (.cond .d (.seq none .d (.cond .d (.seq none .d (.cond .d (.seq (some nm1) .d (.cond .d (.seq (some nm2) .d .d))))))))))) .d)) (fr0 c) RR (fun _ _=>none) RR=sh0 c (fun y0 y1=>(hid ct1) (fr1 y0 y1)):=by kernel_rfl
theorem P1 (x3 aA):ct1 (fr1 x3 aA)=sh1 x3 aA (fun y0 y1=>(hid ct2) (fr2 y0 y1)):=by kernel_rfl
theorem P2 (x3 bA):ct2 (fr2 x3 bA)=sh2 x3 bA:=by kernel_rfl
noncomputable def f2 (x3:List UInt8) (bA:Bool):R:=sh2 x3 bA
noncomputable def f1 (x3:List UInt8) (aA:Bool):R:=sh1 x3 aA f2
noncomputable def f0 (c:List UInt8):R:=sh0 c f1
theorem T2 (x3 bA):(hid ct2) (fr2 x3 bA)=f2 x3 bA:=by
  refine (congrFun (hid_eq _) _).trans <| (P2 x3 bA).trans ?_
  show _=sh2 x3 bA
  rfl
theorem T1 (x3 aA):(hid ct1) (fr1 x3 aA)=f1 x3 aA:=by
  refine (congrFun (hid_eq _) _).trans <| (P1 x3 aA).trans ?_
  show _=sh1 x3 aA f2
  simp only [T2]
theorem T0 (c):exec X bd (.seq none .d (.seq none (.seq none .d (.block (.seq none .d (.cond .d (.seq none .d (.cond .d (.seq none .d (.cond .d (.seq (some nm1) .d (.cond .d (.seq (some nm2) .d .d))))))))))) .d)) (fr0 c) RR (fun _ _=>none) RR=f0 c:=by
  refine (P0 c).trans ?_
  show _=sh0 c f1
  simp only [T1]
theorem run (c):runFn X bd (.seq none .d (.seq none (.seq none .d (.block (.seq none .d (.cond .d (.seq none .d (.cond .d (.seq none .d (.cond .d (.seq (some nm1) .d (.cond .d (.seq (some nm2) .d .d))))))))))) .d)) nmR [2] [] [(.str c)]=f0 c:=T0 c
theorem f0_eq (c:List UInt8):f0 c=some (.int .i64 (pointsZ c),[]):=by
  unfold f0 sh0 f1 sh1 f2 sh2 pointsZ
  cases h0:c == [67,82]; rotate_left; · rfl
  cases h1:c == [70,82]; rotate_left; · rfl
  cases h2:c == [66,82]; rotate_left; · rfl
  cases h3:c == [68,74]; rotate_left; · rfl
  cases h4:c == [73,78]; rotate_left; · rfl
  cases h5:c == [82,79]; rotate_left; · rfl
  cases h6:c == [67,79]; rotate_left; · rfl
  cases h7:c == [68,69]; rotate_left; · rfl
  cases h8:c == [79,66]; rotate_left; · rfl
  rfl
theorem ok:CtxOk Tryz.prog X:=ctxOk tab spN dpN
theorem okM:MOk Tryz.prog X:=fun g sp h=>by cases h
theorem spec (c:List UInt8):CallSpec Tryz.prog E 50 [(.str c)] (.int .i64 (pointsZ c)) [] :=
  runFn_sound ok okM Tryz.call50 Tryz.func50 (by kernel_rfl) (by kernel_rfl) (by kernel_rfl) (by show 1≤20; decide) (by decide) (by rfl) ((run c).trans (f0_eq c))
noncomputable def sp:Sp U El:=fun args k=>match args with
  | [.str c]=>k (.int .i64 (pointsZ c)) []
  | _=>none
theorem spOk:SpOk Tryz.prog E 50 sp where
  det:=fun vs=>by
    unfold sp
    split
    · exact ⟨some (_,_),fun _=>rfl⟩
    · exact ⟨none,fun _=>rfl⟩
  ok:=fun vs k r h=>by
    unfold sp at h
    split at h
    · exact ⟨_,_,spec _,h⟩
    · cases h
end points
end Go.Proofs.YtnhmhcobpbilhaaGreatDoor
