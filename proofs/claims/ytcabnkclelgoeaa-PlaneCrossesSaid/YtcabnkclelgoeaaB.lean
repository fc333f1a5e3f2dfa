/- Walks of the functions of package plane that compute with two to four points, and of their reference. -/
import Derived.Test.YtcabnkclelgoeaaA
import Derived.BigQuiet
import Derived.Deep.QuietTactic
namespace Go.Proofs.Ytcabnkclelgoeaa
open Go.ChangeShapes Go.WideShapes Go.ChangeAt Go.RowKit

theorem turn_raw (a1 a2 b1 b2 c1 c2 : Int) (w : World) :
    Calls Try.prog 42 #[pt a1 a2, pt b1 b2, pt c1 c2] w fun e w' => e = .returned (.int .i64 (turnI (a1, a2) (b1, b2) (c1, c2))) ∧ Below w.heap.size w w' := by
  go_enter Try.func42, Try.ntmps42
  go_wp2
  go_returns
  exact ⟨rfl, by go_grown⟩
theorem rturn_raw (a1 a2 b1 b2 c1 c2 : Int) (w : World) :
    Calls Try.prog 25 #[pt a1 a2, pt b1 b2, pt c1 c2] w fun e w' => e = .returned (.int .i64 (turnI (a1, a2) (b1, b2) (c1, c2))) ∧ Below w.heap.size w w' := by
  go_enter Try.func25, Try.ntmps25
  go_wp2
  go_returns
  exact ⟨rfl, by go_grown⟩
theorem turn_ok (a1 a2 b1 b2 c1 c2 : Int) (w : World) (ha : okP (a1, a2) = true) (hb : okP (b1, b2) = true) (hc : okP (c1, c2) = true) :
    Calls Try.prog 42 #[pt a1 a2, pt b1 b2, pt c1 c2] w fun e w' => e = .returned (.int .i64 (turnZ (a1, a2) (b1, b2) (c1, c2))) ∧ Below w.heap.size w w' :=
  (turn_raw a1 a2 b1 b2 c1 c2 w).mono fun _ _ ⟨he, h⟩ => ⟨by rw [he, turnI_eq ha hb hc], h⟩
theorem rturn_ok (a1 a2 b1 b2 c1 c2 : Int) (w : World) (ha : okP (a1, a2) = true) (hb : okP (b1, b2) = true) (hc : okP (c1, c2) = true) :
    Calls Try.prog 25 #[pt a1 a2, pt b1 b2, pt c1 c2] w fun e w' => e = .returned (.int .i64 (turnZ (a1, a2) (b1, b2) (c1, c2))) ∧ Below w.heap.size w w' :=
  (rturn_raw a1 a2 b1 b2 c1 c2 w).mono fun _ _ ⟨he, h⟩ => ⟨by rw [he, turnI_eq ha hb hc], h⟩
theorem square_raw (a1 a2 b1 b2 : Int) (w : World) :
    Calls Try.prog 46 #[pt a1 a2, pt b1 b2] w fun e w' => e = .returned (.int .i64 (sqI (a1, a2) (b1, b2))) ∧ Below w.heap.size w w' := by
  go_enter Try.func46, Try.ntmps46
  go_wp2
  go_returns
  exact ⟨rfl, by go_grown⟩
theorem rsquare_raw (a1 a2 b1 b2 : Int) (w : World) :
    Calls Try.prog 26 #[pt a1 a2, pt b1 b2] w fun e w' => e = .returned (.int .i64 (sqI (a1, a2) (b1, b2))) ∧ Below w.heap.size w w' := by
  go_enter Try.func26, Try.ntmps26
  go_wp2
  go_returns
  exact ⟨rfl, by go_grown⟩
theorem square_ok (a1 a2 b1 b2 : Int) (w : World) (ha : okP (a1, a2) = true) (hb : okP (b1, b2) = true) :
    Calls Try.prog 46 #[pt a1 a2, pt b1 b2] w fun e w' => e = .returned (.int .i64 (sqZ (a1, a2) (b1, b2))) ∧ Below w.heap.size w w' :=
  (square_raw a1 a2 b1 b2 w).mono fun _ _ ⟨he, h⟩ => ⟨by rw [he, sqI_eq ha hb], h⟩
theorem rsquare_ok (a1 a2 b1 b2 : Int) (w : World) (ha : okP (a1, a2) = true) (hb : okP (b1, b2) = true) :
    Calls Try.prog 26 #[pt a1 a2, pt b1 b2] w fun e w' => e = .returned (.int .i64 (sqZ (a1, a2) (b1, b2))) ∧ Below w.heap.size w w' :=
  (rsquare_raw a1 a2 b1 b2 w).mono fun _ _ ⟨he, h⟩ => ⟨by rw [he, sqI_eq ha hb], h⟩

theorem compare_any (a b : Int) (w : World) :
    Calls Try.prog 45 #[.int .i64 a, .int .i64 b] w fun e w' => e = .returned (.int .i64 (cmpZ a b)) ∧ w = w' := by
  by_cases h1 : a < b
  · go_enter Try.func45, Try.ntmps45
    go_wp2
    go_returns
    exact ⟨ret_int (cmpZ_lt h1).symm, rfl⟩
  · by_cases h2 : b < a
    · go_enter Try.func45, Try.ntmps45
      go_wp2
      go_returns
      exact ⟨ret_int (cmpZ_gt h2).symm, rfl⟩
    · go_enter Try.func45, Try.ntmps45
      go_wp2
      go_returns
      exact ⟨ret_int (cmpZ_eq h2 h1).symm, rfl⟩
theorem sign_any (a : Int) (w : World) :
    Calls Try.prog 24 #[.int .i64 a] w fun e w' => e = .returned (.int .i64 (cmpZ a 0)) ∧ w = w' := by
  go_enter Try.func24, Try.ntmps24
  go_wp2
  all_goals (go_returns; exact ⟨ret_int (by unfold cmpZ; repeat' split; all_goals (first | rfl | omega)), rfl⟩)
theorem p_any (x y : Int) (w : World) :
    Calls Try.prog 38 #[.int .i64 x, .int .i64 y] w fun e w' => e = .returned (pt x y) ∧ Below w.heap.size w w' := by
  go_enter Try.func38, Try.ntmps38
  go_wp2
  go_returns
  exact ⟨rfl, by go_grown⟩
theorem on_ok (a1 a2 b1 b2 c1 c2 : Int) (w : World) (ha : okP (a1, a2) = true) (hb : okP (b1, b2) = true) (hc : okP (c1, c2) = true) :
    Calls Try.prog 41 #[pt a1 a2, pt b1 b2, pt c1 c2] w fun e w' => e = .returned (.bool (onB (a1, a2) (b1, b2) (c1, c2))) ∧ Below w.heap.size w w' := by
  have H := fun W => turn_ok a1 a2 b1 b2 c1 c2 W ha hb hc
  have H := Lib.hid H
  clear ha hb hc
  go_enter Try.func41, Try.ntmps41
  go_wp2_with fail
  refine (H.out _).mono ?_
  rintro e w1 ⟨rfl, hb1⟩
  obtain ⟨hc, hf⟩ := bcell hb1
  go_wp2
  all_goals (go_returns; exact ⟨ret_bool (by apply bool_eq; simp [onB]; omega), (by go_grown : Below w.heap.size w _).trans (hb1.mono (by simp; omega))⟩)
end Go.Proofs.Ytcabnkclelgoeaa
