/- The law PlanePoints: all cases together. -/
import Derived.Test.YtcabnkclelgoeaaPC
namespace Go.Proofs.Ytcabnkclelgoeaa
set_option linter.unusedSimpArgs false
set_option linter.unusedVariables false
open Go.ChangeShapes Go.WideShapes Go.ChangeAt Go.RowKit
theorem points_law (a1 a2 b1 b2 c1 c2 d1 d2 : Int) (w : World) :
    Calls Try.prog 6 #[pt a1 a2, pt b1 b2, pt c1 c2, pt d1 d2] w fun e w' => e = .returned (.bool true) ∧ Below w.heap.size w w' := by
  by_cases ha : okP (a1, a2) = true
  · by_cases hb : okP (b1, b2) = true
    · by_cases hc : okP (c1, c2) = true
      · by_cases hd : okP (d1, d2) = true
        · by_cases h0 : turnZ (a1, a2) (b1, b2) (c1, c2) = 0
          · exact points_flat _ _ _ _ _ _ _ _ w ha hb hc hd h0
          · exact points_full _ _ _ _ _ _ _ _ w ha hb hc hd h0
        · exact points_q _ _ _ _ _ _ _ _ w ha hb hc (by simpa using hd)
      · exact points_c _ _ _ _ _ _ _ _ w ha hb (by simpa using hc)
    · exact points_ab _ _ _ _ _ _ _ _ w (.inr (by simpa using hb))
  · exact points_ab _ _ _ _ _ _ _ _ w (.inl (by simpa using ha))
end Go.Proofs.Ytcabnkclelgoeaa
