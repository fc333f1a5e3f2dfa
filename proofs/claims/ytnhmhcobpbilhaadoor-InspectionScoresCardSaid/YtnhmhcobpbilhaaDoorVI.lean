/- The law InspectionScores: its run. -/
import Derived.Test.YtnhmhcobpbilhaaDoorVT
namespace Go.Proofs.YtnhmhcobpbilhaaDoor
set_option linter.unusedSectionVars false
set_option linter.unusedSimpArgs false
set_option linter.unusedVariables false
set_option maxRecDepth 100000

namespace lawScores
noncomputable def bd : Code := (Tryd.f3.body).getD .skip
noncomputable def X : Ctx U El := ⟨E, tds, zeros, eqs, specOf [(10, awake.sp), (11, few.sp), (12, score.sp), (13, gradeF.sp), (14, rvalid.sp), (15, rscore.sp), (16, rgrade.sp)], 100000, 63, fun _ => none⟩
noncomputable def nmR : Norm U := ⟨[], [4], []⟩
noncomputable def RR : Kont U El := fun st => normK nmR st (retFin [4] [])
noncomputable def fr0 (l : List Df) (L : Int) : St U El := ⟨[(0, (.lst .df l)), (1, (.int .i64 L))], []⟩
noncomputable def sh0 (l : List Df) (L : Int) : R :=
  condB (!(true)) (some ((.bool false), [])) (condB (!(fewB l)) (some ((.bool true), [])) (condB (!(validB L l)) (condB ((scoreZ L l) == (0 : Int)) (condB ((scoreE L l) == (1 : Int)) (condB ((gradeF L l) == (0 : Int)) (some ((.bool ((scoreE L l) == (1 : Int))), [])) (some ((.bool false), []))) (some ((.bool false), []))) (some ((.bool false), []))) (chk (okL l) (condB ((scoreZ L l) == (totZ l)) (condB ((scoreE L l) == (0 : Int)) (chk ((okL l && pos16 L)) (condB ((gradeF L l) == (rgradeZ L l)) (some ((.bool ((scoreE L l) == (0 : Int))), [])) (some ((.bool false), [])))) (some ((.bool false), []))) (some ((.bool false), []))))))
theorem P0 (l : List Df) (L : Int) : exec X (cdp [] bd) .d (fr0 l L) RR (fun _ _ => none) RR = sh0 l L := by kernel_rfl
noncomputable def f0 (l : List Df) (L : Int) : R := sh0 l L
theorem T0 (l : List Df) (L : Int) : exec X bd .d (fr0 l L) RR (fun _ _ => none) RR = f0 l L := by
  refine (P0 l L).trans ?_
  show _ = sh0 l L
  rfl
theorem run (l : List Df) (L : Int) : runFn X bd .d nmR [4] [] [(.lst .df l), (.int .i64 L)] = f0 l L := T0 l L
theorem f0_eq (l : List Df) (L : Int) : f0 l L = some (.bool true, []) := by
  unfold f0 sh0 scoreZ scoreE gradeF
  cases fewB l
  · rfl
  cases h : validB L l
  · rfl
  · obtain ⟨h1, h2⟩ := valid_okL h
    rw [h1, h2]
    simp only [cond_true, beq_self_eq_true]
    rfl
theorem ok : CtxOk Tryd.prog X := ctxOk tab (by
  intro p hp
  simp only [List.mem_cons, List.not_mem_nil, or_false] at hp
  rcases hp with rfl | rfl | rfl | rfl | rfl | rfl | rfl
  · exact awake.spOk
  · exact few.spOk
  · exact score.spOk
  · exact gradeF.spOk
  · exact rvalid.spOk
  · exact rscore.spOk
  · exact rgrade.spOk)
theorem okM : MOk Tryd.prog X := fun g sp h => by cases h
theorem spec (l : List Df) (L : Int) : CallSpec Tryd.prog E 3 [(.lst .df l), (.int .i64 L)] (.bool (true)) [] :=
  runFn_sound ok okM Tryd.call3 Tryd.func3 (by kernel_rfl) (by kernel_rfl) (by kernel_rfl) (by show 2 ≤ 63; decide) (by decide) (by rfl) ((run l L).trans (f0_eq l L))
noncomputable def sp : Sp U El := fun args k => match args with
  | [.lst .df l, .int .i64 L] => k (.bool (true)) []
  | _ => none
theorem spOk : SpOk Tryd.prog E 3 sp where
  det := fun vs => by
    unfold sp
    split
    · exact ⟨some (_, _), fun _ => rfl⟩
    · exact ⟨none, fun _ => rfl⟩
  ok := fun vs k r h => by
    unfold sp at h
    split at h
    · exact ⟨_, _, spec _ _, h⟩
    · cases h
end lawScores
end Go.Proofs.YtnhmhcobpbilhaaDoor
