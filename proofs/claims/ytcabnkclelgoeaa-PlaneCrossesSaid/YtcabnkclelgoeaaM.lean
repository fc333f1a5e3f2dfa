/- Plain definitions and laws on points of the plane: no program in sight. -/
import Derived.Test.YtcabnkclelgoeaaRows
import Derived.WalkKit
import Derived.ProofKit
import Derived.Handy
import Derived.BigQuiet
import Derived.Deep.QuietTactic
namespace Go.Proofs.Ytcabnkclelgoeaa
open Go.RowKit

def okP (a : Int × Int) : Bool := decide (-16777216 ≤ a.1 ∧ a.1 ≤ 16777216 ∧ -16777216 ≤ a.2 ∧ a.2 ≤ 16777216)
def turnZ (a b c : Int × Int) : Int := (b.1 - a.1) * (c.2 - a.2) - (b.2 - a.2) * (c.1 - a.1)
def sqZ (a b : Int × Int) : Int := (a.1 - b.1) * (a.1 - b.1) + (a.2 - b.2) * (a.2 - b.2)
def cmpZ (a b : Int) : Int := if a < b then -1 else if b < a then 1 else 0
def onB (a b p : Int × Int) : Bool := decide (turnZ a b p = 0 ∧ min a.1 b.1 ≤ p.1 ∧ p.1 ≤ max a.1 b.1 ∧ min a.2 b.2 ≤ p.2 ∧ p.2 ≤ max a.2 b.2)
def apartB (a b p q : Int × Int) : Bool := decide (turnZ a b p < 0 ∧ 0 < turnZ a b q ∨ 0 < turnZ a b p ∧ turnZ a b q < 0)

theorem ret_bool {a b : Bool} (h : a = b) : Ending.returned (.bool a) = .returned (.bool b) := by rw [h]
theorem ret_int {k : IntKind} {a b : Int} (h : a = b) : Ending.returned (.int k a) = .returned (.int k b) := by rw [h]
theorem ret_ints {k l : IntKind} {a b c d : Int} (h : a = b) (i : c = d) : Ending.returned (.tuple #[.int k a, .int l c]) = .returned (.tuple #[.int k b, .int l d]) := by rw [h, i]

theorem bool_eq {a b : Bool} (h : a = true ↔ b = true) : a = b := by
  cases a <;> cases b <;> simp_all

theorem mul_bd (x y A B : Int) (hx : -A ≤ x ∧ x ≤ A) (hy : -B ≤ y ∧ y ≤ B) : -(A * B) ≤ x * y ∧ x * y ≤ A * B := by
  have h := Int.natAbs_mul x y
  have h1 : x.natAbs * y.natAbs ≤ A.toNat * B.toNat := Nat.mul_le_mul (by omega) (by omega)
  have h2 : ((A.toNat * B.toNat : Nat) : Int) = A * B := by
    rw [Int.natCast_mul, Int.toNat_of_nonneg (by omega), Int.toNat_of_nonneg (by omega)]
  omega

theorem okP_bd {a : Int × Int} (h : okP a = true) : (-16777216 ≤ a.1 ∧ a.1 ≤ 16777216) ∧ (-16777216 ≤ a.2 ∧ a.2 ≤ 16777216) := by
  unfold okP at h
  have := of_decide_eq_true h
  omega

theorem prod_bd (x y : Int) (hx : -33554432 ≤ x ∧ x ≤ 33554432) (hy : -33554432 ≤ y ∧ y ≤ 33554432) : -1125899906842624 ≤ x * y ∧ x * y ≤ 1125899906842624 := by
  have := mul_bd x y 33554432 33554432 hx hy
  omega

theorem turnZ_bd {a b c : Int × Int} (ha : okP a = true) (hb : okP b = true) (hc : okP c = true) : -2251799813685248 ≤ turnZ a b c ∧ turnZ a b c ≤ 2251799813685248 := by
  have ha := okP_bd ha
  have hb := okP_bd hb
  have hc := okP_bd hc
  have h1 := prod_bd (b.1 - a.1) (c.2 - a.2) (by omega) (by omega)
  have h2 := prod_bd (b.2 - a.2) (c.1 - a.1) (by omega) (by omega)
  unfold turnZ
  omega

theorem sq_nonneg (x : Int) : 0 ≤ x * x := by
  rcases Int.le_total 0 x with h | h
  · exact Int.mul_nonneg h h
  · exact Int.mul_nonneg_of_nonpos_of_nonpos h h

theorem sqZ_bd {a b : Int × Int} (ha : okP a = true) (hb : okP b = true) : 0 ≤ sqZ a b ∧ sqZ a b ≤ 2251799813685248 := by
  have ha := okP_bd ha
  have hb := okP_bd hb
  have h1 := prod_bd (a.1 - b.1) (a.1 - b.1) (by omega) (by omega)
  have h2 := prod_bd (a.2 - b.2) (a.2 - b.2) (by omega) (by omega)
  have h3 := sq_nonneg (a.1 - b.1)
  have h4 := sq_nonneg (a.2 - b.2)
  unfold sqZ
  omega

/-- the turn as the machine computes it -/
def turnI (a b c : Int × Int) : Int := wrap64 (wrap64 (wrap64 (b.1 - a.1) * wrap64 (c.2 - a.2)) - wrap64 (wrap64 (b.2 - a.2) * wrap64 (c.1 - a.1)))
def sqI (a b : Int × Int) : Int := wrap64 (wrap64 (wrap64 (a.1 - b.1) * wrap64 (a.1 - b.1)) + wrap64 (wrap64 (a.2 - b.2) * wrap64 (a.2 - b.2)))

theorem w64 (x : Int) (h : -9223372036854775808 ≤ x ∧ x ≤ 9223372036854775807) : wrap64 x = x := by
  unfold wrap64
  omega

theorem turnI_eq {a b c : Int × Int} (ha : okP a = true) (hb : okP b = true) (hc : okP c = true) : turnI a b c = turnZ a b c := by
  have ht := turnZ_bd ha hb hc
  have ha := okP_bd ha
  have hb := okP_bd hb
  have hc := okP_bd hc
  have h1 := prod_bd (b.1 - a.1) (c.2 - a.2) (by omega) (by omega)
  have h2 := prod_bd (b.2 - a.2) (c.1 - a.1) (by omega) (by omega)
  unfold turnI
  unfold turnZ at ht ⊢
  rw [w64 (b.1 - a.1) (by omega), w64 (c.2 - a.2) (by omega), w64 (b.2 - a.2) (by omega), w64 (c.1 - a.1) (by omega), w64 ((b.1 - a.1) * (c.2 - a.2)) (by omega), w64 ((b.2 - a.2) * (c.1 - a.1)) (by omega), w64 _ (by omega)]

theorem sqI_eq {a b : Int × Int} (ha : okP a = true) (hb : okP b = true) : sqI a b = sqZ a b := by
  have ht := sqZ_bd ha hb
  have ha := okP_bd ha
  have hb := okP_bd hb
  have h1 := prod_bd (a.1 - b.1) (a.1 - b.1) (by omega) (by omega)
  have h2 := prod_bd (a.2 - b.2) (a.2 - b.2) (by omega) (by omega)
  unfold sqI
  unfold sqZ at ht ⊢
  rw [w64 (a.1 - b.1) (by omega), w64 (a.2 - b.2) (by omega), w64 ((a.1 - b.1) * (a.1 - b.1)) (by omega), w64 ((a.2 - b.2) * (a.2 - b.2)) (by omega), w64 _ (by omega)]

/-- the place of the first point that is not valid, or -1 -/
def firstBad : List (Int × Int) → Int
  | [] => -1
  | p :: l => if okP p = false then 0 else if firstBad l < 0 then -1 else firstBad l + 1

theorem firstBad_none (l : List (Int × Int)) (h : ∀ i, i < l.length → okP (l.getD i (0, 0)) = true) : firstBad l = -1 ∧ l.all okP = true := by
  induction l with
  | nil => exact ⟨rfl, rfl⟩
  | cons p l ih =>
    have h0 : okP p = true := h 0 (by simp)
    have := ih (fun i hi => by have := h (i + 1) (by simpa using hi); simpa using this)
    simp [firstBad, h0, this.1, this.2]

theorem firstBad_some (l : List (Int × Int)) (k : Nat) (hk : k < l.length) (h : ∀ i, i < k → okP (l.getD i (0, 0)) = true) (hb : okP (l.getD k (0, 0)) = false) : firstBad l = k ∧ l.all okP = false := by
  induction l generalizing k with
  | nil => simp at hk
  | cons p l ih =>
    cases k with
    | zero =>
      have hb : okP p = false := by simpa using hb
      simp [firstBad, hb]
    | succ k =>
      have h0 : okP p = true := h 0 (by omega)
      have := ih k (by simpa using hk) (fun i hi => by have := h (i + 1) (by omega); simpa using this) (by simpa using hb)
      refine ⟨?_, by simp [this.2]⟩
      simp [firstBad, h0, this.1]
      omega
theorem cmpZ_lt {a b : Int} (h : a < b) : cmpZ a b = -1 := by unfold cmpZ; rw [if_pos h]
theorem cmpZ_gt {a b : Int} (h : b < a) : cmpZ a b = 1 := by unfold cmpZ; rw [if_neg (by omega), if_pos h]
theorem cmpZ_eq {a b : Int} (h : a ≤ b) (k : b ≤ a) : cmpZ a b = 0 := by unfold cmpZ; rw [if_neg (by omega), if_neg (by omega)]
theorem cmpZ_cases (a b : Int) : (a < b ∧ cmpZ a b = -1) ∨ (a = b ∧ cmpZ a b = 0) ∨ (b < a ∧ cmpZ a b = 1) := by
  unfold cmpZ
  split
  · exact .inl ⟨‹_›, rfl⟩
  · split
    · exact .inr (.inr ⟨‹_›, rfl⟩)
    · exact .inr (.inl ⟨by omega, rfl⟩)

theorem below_drewN {B : Nat} {a w : World} (h : Below B a w) (n : Nat) : Below B a (w.drewN n) := ⟨h.os, h.tape, h.output, h.size, h.block⟩

/-- what a callee that turns no old memory leaves: the walk's two rules -/
theorem bcell {W w1 : World} (hb : Below W.heap.size W w1) : (∀ b o, b < W.heap.size → w1.cell? ⟨b, o, none⟩ = W.cell? ⟨b, o, none⟩) ∧ (∀ b o, b < W.heap.size → w1.frozen? ⟨b, o, none⟩ = W.frozen? ⟨b, o, none⟩) :=
  ⟨fun b o h => hb.cell (p := ⟨b, o, none⟩) h, fun b o h => hb.frozen (p := ⟨b, o, none⟩) h⟩
end Go.Proofs.Ytcabnkclelgoeaa
