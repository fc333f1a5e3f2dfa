/- points: what a code counts. -/
import Derived.Test.YtnhmhcobpbilhaaDoorV
namespace Go.Proofs.YtnhmhcobpbilhaaDoor
set_option linter.unusedSectionVars false
set_option linter.unusedSimpArgs false
set_option linter.unusedVariables false
set_option maxRecDepth 100000

noncomputable def pointsZ (c : List UInt8) : Int :=
  bif c == [67, 82] then 2 else bif c == [70, 82] then 5 else bif c == [66, 82] then 20 else bif c == [68, 74] || c == [73, 78] then 3
  else bif c == [82, 79] || c == [67, 79] then 4 else bif c == [68, 69] then 1 else bif c == [79, 66] then 6 else 0

namespace points
noncomputable def bd : Code := (Tryd.f56.body).getD .skip
noncomputable def X : Ctx U El := ⟨E, tds, zeros, eqs, specOf [], 100000, 20, fun _ => none⟩
noncomputable def nmR : Norm U := ⟨[], [2], [], [], [], []⟩
noncomputable def RR : Kont U El := fun st => normK nmR st (retFin [2] [])
noncomputable def nm1 : Norm U := ⟨[], [3, 10], [], [], [], []⟩
noncomputable def nm2 : Norm U := ⟨[], [3, 13], [], [], [], []⟩
noncomputable def fr0 (c : List UInt8) : St U El := ⟨[(0, (.str c))], []⟩
noncomputable def fr1 (x3 : List UInt8) (x10 : Bool) : St U El := ⟨[(3, (.str x3)), (10, (.bool x10))], []⟩
noncomputable def fr2 (x3 : List UInt8) (x13 : Bool) : St U El := ⟨[(3, (.str x3)), (13, (.bool x13))], []⟩
noncomputable def sh0 (c : List UInt8) (k1 : (List UInt8) → Bool → R) : R :=
  condB (c == ([67, 82] : List UInt8)) (some ((.int .i64 (2 : Int)), [])) (condB (c == ([70, 82] : List UInt8)) (some ((.int .i64 (5 : Int)), [])) (condB (c == ([66, 82] : List UInt8)) (some ((.int .i64 (20 : Int)), [])) (condB (c == ([68, 74] : List UInt8)) (k1 c true) (k1 c (c == ([73, 78] : List UInt8))))))
noncomputable def sh1 (x3 : List UInt8) (x10 : Bool) (k2 : (List UInt8) → Bool → R) : R :=
  condB x10 (some ((.int .i64 (3 : Int)), [])) (condB (x3 == ([82, 79] : List UInt8)) (k2 x3 true) (k2 x3 (x3 == ([67, 79] : List UInt8))))
noncomputable def sh2 (x3 : List UInt8) (x13 : Bool) : R :=
  condB x13 (some ((.int .i64 (4 : Int)), [])) (condB (x3 == ([68, 69] : List UInt8)) (some ((.int .i64 (1 : Int)), [])) (condB (x3 == ([79, 66] : List UInt8)) (some ((.int .i64 (6 : Int)), [])) (some ((.int .i64 (0 : Int)), []))))
noncomputable def ct1 : Kont U El := fun st => exec X (cdp [1, 0, 1, 0, 1, 1, 1, 1, 1, 1, 1] bd) (.cond .d (.seq (some nm2) .d .d)) st (fun st' => exec X (cdp [1, 1] bd) .d st' RR (fun _ _ => none) RR) (Eblk 0 (fun st' => exec X (cdp [1, 1] bd) .d st' RR (fun _ _ => none) RR) (fun _ _ => none)) RR
noncomputable def ct2 : Kont U El := fun st => exec X (cdp [1, 0, 1, 0, 1, 1, 1, 1, 1, 1, 1, 1, 1] bd) .d st (fun st' => exec X (cdp [1, 1] bd) .d st' RR (fun _ _ => none) RR) (Eblk 0 (fun st' => exec X (cdp [1, 1] bd) .d st' RR (fun _ _ => none) RR) (fun _ _ => none)) RR
theorem P0 (c : List UInt8) : exec X (cdp [] bd) (.seq none .d (.seq none (.seq none .d (.block (.seq none .d (.cond .d (.seq none .d (.cond .d (.seq none .d (.cond .d (.seq (some nm1) .d (.cond .d (.seq (some nm2) .d .d))))))))))) .d)) (fr0 c) RR (fun _ _ => none) RR = sh0 c (fun y0 y1 => (hid ct1) (fr1 y0 y1)) := by kernel_rfl
theorem P1 (x3 : List UInt8) (x10 : Bool) : exec X (cdp [1, 0, 1, 0, 1, 1, 1, 1, 1, 1, 1] bd) (.cond .d (.seq (some nm2) .d .d)) (fr1 x3 x10) (fun st' => exec X (cdp [1, 1] bd) .d st' RR (fun _ _ => none) RR) (Eblk 0 (fun st' => exec X (cdp [1, 1] bd) .d st' RR (fun _ _ => none) RR) (fun _ _ => none)) RR = sh1 x3 x10 (fun y0 y1 => (hid ct2) (fr2 y0 y1)) := by kernel_rfl
theorem P2 (x3 : List UInt8) (x13 : Bool) : exec X (cdp [1, 0, 1, 0, 1, 1, 1, 1, 1, 1, 1, 1, 1] bd) .d (fr2 x3 x13) (fun st' => exec X (cdp [1, 1] bd) .d st' RR (fun _ _ => none) RR) (Eblk 0 (fun st' => exec X (cdp [1, 1] bd) .d st' RR (fun _ _ => none) RR) (fun _ _ => none)) RR = sh2 x3 x13 := by kernel_rfl
noncomputable def f2 (x3 : List UInt8) (x13 : Bool) : R := sh2 x3 x13
noncomputable def f1 (x3 : List UInt8) (x10 : Bool) : R := sh1 x3 x10 f2
noncomputable def f0 (c : List UInt8) : R := sh0 c f1
theorem T2 (x3 : List UInt8) (x13 : Bool) : (hid ct2) (fr2 x3 x13) = f2 x3 x13 := by
  refine (congrFun (hid_eq _) _).trans <| (P2 x3 x13).trans ?_
  show _ = sh2 x3 x13
  rfl
theorem T1 (x3 : List UInt8) (x10 : Bool) : (hid ct1) (fr1 x3 x10) = f1 x3 x10 := by
  refine (congrFun (hid_eq _) _).trans <| (P1 x3 x10).trans ?_
  show _ = sh1 x3 x10 f2
  simp only [T2]
theorem T0 (c : List UInt8) : exec X bd (.seq none .d (.seq none (.seq none .d (.block (.seq none .d (.cond .d (.seq none .d (.cond .d (.seq none .d (.cond .d (.seq (some nm1) .d (.cond .d (.seq (some nm2) .d .d))))))))))) .d)) (fr0 c) RR (fun _ _ => none) RR = f0 c := by
  refine (P0 c).trans ?_
  show _ = sh0 c f1
  simp only [T1]
theorem run (c : List UInt8) : runFn X bd (.seq none .d (.seq none (.seq none .d (.block (.seq none .d (.cond .d (.seq none .d (.cond .d (.seq none .d (.cond .d (.seq (some nm1) .d (.cond .d (.seq (some nm2) .d .d))))))))))) .d)) nmR [2] [] [(.str c)] = f0 c := T0 c
theorem f0_eq (c : List UInt8) : f0 c = some (.int .i64 (pointsZ c), []) := by
  unfold f0 sh0 f1 sh1 f2 sh2 pointsZ
  cases h0 : c == [67, 82]; rotate_left; · rfl
  cases h1 : c == [70, 82]; rotate_left; · rfl
  cases h2 : c == [66, 82]; rotate_left; · rfl
  cases h3 : c == [68, 74]; rotate_left; · rfl
  cases h4 : c == [73, 78]; rotate_left; · rfl
  cases h5 : c == [82, 79]; rotate_left; · rfl
  cases h6 : c == [67, 79]; rotate_left; · rfl
  cases h7 : c == [68, 69]; rotate_left; · rfl
  cases h8 : c == [79, 66]; rotate_left; · rfl
  rfl
theorem ok : CtxOk Tryd.prog X := ctxOk tab (by
  intro p hp
  cases hp)
theorem okM : MOk Tryd.prog X := fun g sp h => by cases h
theorem spec (c : List UInt8) : CallSpec Tryd.prog E 56 [(.str c)] (.int .i64 (pointsZ c)) [] :=
  runFn_sound ok okM Tryd.call56 Tryd.func56 (by kernel_rfl) (by kernel_rfl) (by kernel_rfl) (by show 1 ≤ 20; decide) (by decide) (by rfl) ((run c).trans (f0_eq c))
noncomputable def sp : Sp U El := fun args k => match args with
  | [.str c] => k (.int .i64 (pointsZ c)) []
  | _ => none
theorem spOk : SpOk Tryd.prog E 56 sp where
  det := fun vs => by
    unfold sp
    split
    · exact ⟨some (_, _), fun _ => rfl⟩
    · exact ⟨none, fun _ => rfl⟩
  ok := fun vs k r h => by
    unfold sp at h
    split at h
    · exact ⟨_, _, spec _, h⟩
    · cases h
end points
end Go.Proofs.YtnhmhcobpbilhaaDoor
