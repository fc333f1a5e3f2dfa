/- The law RulesSets. -/
import Derived.Test.YtlkfbblapimhoaaGreatDoorVI
import Derived.Test.YtlkfbblapimhoaaGreatDoorAW
namespace Go.Proofs.YtlkfbblapimhoaaGreatDoor
set_option linter.unusedSectionVars false
set_option linter.unusedSimpArgs false
set_option linter.unusedVariables false
set_option maxRecDepth 100000
theorem runS_len (n : Net) (am : List ((List UInt8) × Int)) : ∀ (l : List Rule) (out : List Int) (st : List (Int × Bool)) (o : List Int), runS n am l out st = some o → o.length = out.length := by
  intro l
  induction l with
  | nil=>intro out st o h; simp only [runS,Option.some.injEq] at h; rw [h]
  | cons r l ih =>
    intro out st o h
    simp only [runS] at h
    cases h1 : !(List.any r.rw (failsM am)) with
    | false=>rw [h1] at h; exact ih _ _ _ h
    | true =>
      rw [h1,cond_true] at h
      cases h2:mgetD kq_int st (linkZ n r.rl) d_bool&&(List.getD out (Int.toNat (linkZ n r.rl)) d_int != r.rs) with
      | true=>rw [h2] at h; cases h
      | false =>
        rw [h2,cond_false] at h
        have:=ih _ _ _ h
        simpa using this
theorem setsL_len (l:List Rule) (n:Net) (v bf:List Int):(setsL l n v bf).length≤bf.length:=by
  unfold setsL
  cases setsE l n v bf == 0 with
  | false=>simp
  | true =>
    rw [cond_true]
    cases h:setsO l n v bf with
    | none=>simp
    | some o=>have:=runS_len _ _ _ _ _ _ h; simp [this]
noncomputable def lvN (n:Net):Bool:=List.all n.lks (fun x=>nle x.lv.length 9223372036854775807)
theorem okN_few {n:Net} (h:lvN n=true) (hf:fewB n=true):okN n=true:=by
  unfold fewB at hf
  simp only [Bool.and_eq_true] at hf
  have h1:=ileI hf.1; have h2:=ileI hf.2
  simp at h1 h2
  unfold okN
  rw [nleT (show n.nds.length≤90000 by omega),nleT (show n.lks.length≤90000 by omega)]
  exact h
end Go.Proofs.YtlkfbblapimhoaaGreatDoor
