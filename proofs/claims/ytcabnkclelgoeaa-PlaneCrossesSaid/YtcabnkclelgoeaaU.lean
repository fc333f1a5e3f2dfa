/- Cross and Inside of valid points, all cases in one contract; what moving and exchanging points does to them. -/
import Derived.Test.YtcabnkclelgoeaaT
namespace Go.Proofs.Ytcabnkclelgoeaa
set_option linter.unusedSimpArgs false
set_option linter.unusedVariables false
open Go.ChangeShapes Go.WideShapes Go.ChangeAt Go.RowKit

def crossR (a b c d : Int × Int) : Int × Int := if a = b ∨ c = d then (0, 25) else (crossZ a b c d, 0)
def insideR (p a b c : Int × Int) : Int × Int := if turnZ a b c = 0 then (0, 25) else (insideZ p a b c, 0)
abbrev two (r : Int × Int) : Value := .tuple #[.int .i64 r.1, .int .i64 r.2]

theorem cross_val (a1 a2 b1 b2 c1 c2 d1 d2 : Int) (w : World) (ha : okP (a1, a2) = true) (hb : okP (b1, b2) = true) (hc : okP (c1, c2) = true) (hd : okP (d1, d2) = true) :
    Calls Try.prog 10 #[pt a1 a2, pt b1 b2, pt c1 c2, pt d1 d2] w fun e w' => e = .returned (two (crossR (a1, a2) (b1, b2) (c1, c2) (d1, d2))) ∧ Below w.heap.size w w' := by
  by_cases h : (a1 = b1 ∧ a2 = b2) ∨ (c1 = d1 ∧ c2 = d2)
  · have e : crossR (a1, a2) (b1, b2) (c1, c2) (d1, d2) = (0, 25) := by unfold crossR; rw [if_pos (by simpa using h)]
    rw [e]
    exact cross_shape _ _ _ _ _ _ _ _ w (by simp [ha, hb, hc, hd]) h
  · have e : crossR (a1, a2) (b1, b2) (c1, c2) (d1, d2) = (crossZ (a1, a2) (b1, b2) (c1, c2) (d1, d2), 0) := by unfold crossR; rw [if_neg (by simpa using h)]
    rw [e]
    exact cross_ok _ _ _ _ _ _ _ _ w ha hb hc hd (fun x => h (.inl x)) (fun x => h (.inr x))
theorem inside_val (a1 a2 b1 b2 c1 c2 d1 d2 : Int) (w : World) (ha : okP (a1, a2) = true) (hb : okP (b1, b2) = true) (hc : okP (c1, c2) = true) (hd : okP (d1, d2) = true) :
    Calls Try.prog 19 #[pt a1 a2, pt b1 b2, pt c1 c2, pt d1 d2] w fun e w' => e = .returned (two (insideR (a1, a2) (b1, b2) (c1, c2) (d1, d2))) ∧ Below w.heap.size w w' := by
  by_cases h : turnZ (b1, b2) (c1, c2) (d1, d2) = 0
  · have e : insideR (a1, a2) (b1, b2) (c1, c2) (d1, d2) = (0, 25) := by unfold insideR; rw [if_pos h]
    rw [e]
    exact inside_shape _ _ _ _ _ _ _ _ w ha hb hc hd h
  · have e : insideR (a1, a2) (b1, b2) (c1, c2) (d1, d2) = (insideZ (a1, a2) (b1, b2) (c1, c2) (d1, d2), 0) := by unfold insideR; rw [if_neg h]
    rw [e]
    exact inside_ok _ _ _ _ _ _ _ _ w ha hb hc hd h

def mv (a v : Int × Int) : Int × Int := (a.1 + v.1, a.2 + v.2)
theorem turn_mv (a b c v : Int × Int) : turnZ (mv a v) (mv b v) (mv c v) = turnZ a b c := by unfold turnZ mv; grind
theorem turn_swap (a b c : Int × Int) : turnZ b a c = -turnZ a b c := by unfold turnZ; grind
theorem turn_rot (a b c : Int × Int) : turnZ b c a = turnZ a b c := by unfold turnZ; grind
theorem cmp_neg (x : Int) : cmpZ (-x) 0 = -cmpZ x 0 := by
  rcases cmpZ_cases x 0 with h | h | h <;> rcases cmpZ_cases (-x) 0 with k | k | k <;> omega
theorem mv_inj (a b v : Int × Int) : mv a v = mv b v ↔ a = b := by
  unfold mv
  constructor
  · intro h
    have h1 := congrArg Prod.fst h
    have h2 := congrArg Prod.snd h
    simp only at h1 h2
    exact Prod.ext (by omega) (by omega)
  · rintro rfl; rfl
theorem on_mv (a b p v : Int × Int) : onB (mv a v) (mv b v) (mv p v) = onB a b p := by
  apply bool_eq
  unfold onB
  rw [decide_eq_true_iff, decide_eq_true_iff, turn_mv]
  unfold mv
  simp only [Int.min_def, Int.max_def]
  repeat' split
  all_goals omega
theorem apart_mv (a b p q v : Int × Int) : apartB (mv a v) (mv b v) (mv p v) (mv q v) = apartB a b p q := by unfold apartB; rw [turn_mv, turn_mv]
theorem cross_mv (a b c d v : Int × Int) : crossR (mv a v) (mv b v) (mv c v) (mv d v) = crossR a b c d := by
  unfold crossR crossZ
  simp only [apart_mv, on_mv, mv_inj]
theorem inside_mv (p a b c v : Int × Int) : insideR (mv p v) (mv a v) (mv b v) (mv c v) = insideR p a b c := by
  unfold insideR insideZ
  simp only [turn_mv]
theorem on_swap (a b p : Int × Int) : onB b a p = onB a b p := by
  apply bool_eq
  unfold onB
  rw [decide_eq_true_iff, decide_eq_true_iff, turn_swap]
  simp only [Int.min_def, Int.max_def]
  repeat' split
  all_goals omega
theorem apart_swap (a b p q : Int × Int) : apartB b a p q = apartB a b p q := by
  apply bool_eq
  unfold apartB
  rw [decide_eq_true_iff, decide_eq_true_iff, turn_swap a b p, turn_swap a b q]
  omega
theorem apart_swap2 (a b p q : Int × Int) : apartB a b q p = apartB a b p q := by
  apply bool_eq
  unfold apartB
  rw [decide_eq_true_iff, decide_eq_true_iff]
  omega
theorem cross_back (a b c d : Int × Int) : crossR d c b a = crossR a b c d := by
  unfold crossR crossZ
  rw [on_swap c d b, on_swap c d a, on_swap a b d, on_swap a b c, apart_swap c d, apart_swap2 c d, apart_swap a b, apart_swap2 a b]
  have e1 : (d = c ∨ b = a) ↔ (a = b ∨ c = d) := by constructor <;> (rintro (h | h) <;> simp [h])
  have e2 : (apartB c d a b = true ∧ apartB a b c d = true) ↔ (apartB a b c d = true ∧ apartB c d a b = true) := And.comm
  have e3 : (onB c d b = true ∨ onB c d a = true ∨ onB a b d = true ∨ onB a b c = true) ↔ (onB a b c = true ∨ onB a b d = true ∨ onB c d a = true ∨ onB c d b = true) := by
    constructor <;> (rintro (h | h | h | h) <;> simp [h])
  simp only [e1, e2, e3]
theorem min_rot (x y z : Int) : min (min (min 1 z) x) y = min (min (min 1 x) y) z := by
  simp only [Int.min_def]
  repeat' split
  all_goals omega
theorem inside_rot (p a b c : Int × Int) : insideR p c a b = insideR p a b c := by
  unfold insideR insideZ
  rw [turn_rot b c a, turn_rot a b c, min_rot]
theorem neg_mul_neg' (x y : Int) : -x * -y = x * y := by grind
theorem inside_swap (p a b c : Int × Int) : insideR p b a c = insideR p a b c := by
  have e0 : turnZ b a c = -turnZ a b c := turn_swap a b c
  have e1 : turnZ b a p = -turnZ a b p := turn_swap a b p
  have e2 : turnZ a c p = -turnZ c a p := turn_swap c a p
  have e3 : turnZ c b p = -turnZ b c p := turn_swap b c p
  unfold insideR insideZ
  rw [e0, e1, e2, e3]
  simp only [cmp_neg, neg_mul_neg', Int.neg_eq_zero]
  have : ∀ x y z : Int, min (min (min 1 x) z) y = min (min (min 1 x) y) z := by
    intro x y z
    simp only [Int.min_def]
    repeat' split
    all_goals omega
  rw [this]
end Go.Proofs.Ytcabnkclelgoeaa
