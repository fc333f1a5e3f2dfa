/- What the reader of inspections gives: its length, its text back, a text's rows. -/
import Derived.Test.YtnhmhcobpbilhaaGreatDoorRP
import Derived.Test.YtnhmhcobpbilhaaGreatDoorVY
namespace Go.Proofs.YtnhmhcobpbilhaaGreatDoor
set_option linter.unusedSectionVars false
set_option linter.unusedSimpArgs false
set_option linter.unusedVariables false
set_option maxRecDepth 100000
theorem fin_len (acc:List Df):(finR acc).1.length≤1000:=by
  unfold finR
  cases hv:validB 16777216 acc
  · exact Nat.zero_le _
  · exact valid_len hv
theorem parK_len:∀ (ls:List (List UInt8)) (n:Int) (acc:List Df),(parK ls n acc).1.length≤1000:=by
  intro ls
  induction ls with
  | nil=>intro n acc; exact fin_len acc
  | cons x l ih =>
    intro n acc
    cases l with
    | nil =>
      simp only [parK]
      cases x == []
      · exact Nat.zero_le _
      · exact fin_len acc
    | cons y l =>
      simp only [parK]
      split
      · exact Nat.zero_le _
      · exact ih _ _
theorem parL_len (s:List UInt8):(parL s).length≤1000:=parK_len _ _ _
end Go.Proofs.YtnhmhcobpbilhaaGreatDoor
