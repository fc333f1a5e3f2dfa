/- Walks of Cross. -/
import Derived.Test.YtcabnkclelgoeaaK
namespace Go.Proofs.Ytcabnkclelgoeaa
set_option linter.unusedSimpArgs false
set_option linter.unusedVariables false
open Go.ChangeShapes Go.WideShapes Go.ChangeAt Go.RowKit

/-- four points in a new block -/
theorem ptsAt4 (w : World) (t : TypeId) (a1 a2 b1 b2 c1 c2 d1 d2 : Int) (b : Nat) (hb : b = w.heap.size) :
    PtsAt (w.alloc (.cells #[.int .i64 a1, .int .i64 a2, .int .i64 b1, .int .i64 b2, .int .i64 c1, .int .i64 c2, .int .i64 d1, .int .i64 d2] t)) b 0 [(a1, a2), (b1, b2), (c1, c2), (d1, d2)] := by
  subst hb
  intro i hi
  simp at hi
  match i, hi with
  | 0, _ => simp
  | 1, _ => simp
  | 2, _ => simp
  | 3, _ => simp
theorem ptsAt3 (w : World) (t : TypeId) (a1 a2 b1 b2 c1 c2 : Int) (b : Nat) (hb : b = w.heap.size) :
    PtsAt (w.alloc (.cells #[.int .i64 a1, .int .i64 a2, .int .i64 b1, .int .i64 b2, .int .i64 c1, .int .i64 c2] t)) b 0 [(a1, a2), (b1, b2), (c1, c2)] := by
  subst hb
  intro i hi
  simp at hi
  match i, hi with
  | 0, _ => simp
  | 1, _ => simp
  | 2, _ => simp
theorem ptsAt2 (w : World) (t : TypeId) (a1 a2 b1 b2 : Int) (b : Nat) (hb : b = w.heap.size) :
    PtsAt (w.alloc (.cells #[.int .i64 a1, .int .i64 a2, .int .i64 b1, .int .i64 b2] t)) b 0 [(a1, a2), (b1, b2)] := by
  subst hb
  intro i hi
  simp at hi
  match i, hi with
  | 0, _ => simp
  | 1, _ => simp
theorem ptsAt1 (w : World) (t : TypeId) (a1 a2 : Int) (b : Nat) (hb : b = w.heap.size) :
    PtsAt (w.alloc (.cells #[.int .i64 a1, .int .i64 a2] t)) b 0 [(a1, a2)] := by
  subst hb
  intro i hi
  simp at hi
  match i, hi with
  | 0, _ => simp

def crossZ (a b c d : Int × Int) : Int :=
  if apartB a b c d = true ∧ apartB c d a b = true then 2 else if onB a b c = true ∨ onB a b d = true ∨ onB c d a = true ∨ onB c d b = true then 1 else 0

theorem all4_of (a b c d : Int × Int) : ([a, b, c, d].all okP) = (okP a && (okP b && (okP c && okP d))) := by simp

theorem cross_arg (a1 a2 b1 b2 c1 c2 d1 d2 : Int) (w : World) (h : [(a1, a2), (b1, b2), (c1, c2), (d1, d2)].all okP = false) :
    Calls Try.prog 10 #[pt a1 a2, pt b1 b2, pt c1 c2, pt d1 d2] w fun e w' => e = .returned (.tuple #[.int .i64 0, .int .i64 1]) ∧ Below w.heap.size w w' := by
  have H := Lib.hid h
  clear h
  go_enter Try.func10, Try.ntmps10
  go_wp2_with fail
  refine (all_any _ _ _ _ [(a1, a2), (b1, b2), (c1, c2), (d1, d2)] _ rfl (by simp [maxLen]) (by simp) (ptsAt4 _ _ _ _ _ _ _ _ _ _ _ (by simp))).mono ?_
  rw [H.out]
  rintro e w1 ⟨rfl, hb1⟩
  go_wp2
  go_returns
  exact ⟨rfl, (by (repeat' (first | (with_reducible exact Below.refl _ _) | (with_reducible assumption) | (with_reducible refine Below.alloc ?_ ?_ _) | (with_reducible refine Below.drew ?_) | (with_reducible refine below_drewN ?_ _) | (with_reducible refine Below.setCell ?_ ?_ _) | (exact Below.size (by with_reducible assumption)) | go_size)) : Below w.heap.size w _).trans (hb1.mono (by simp; omega))⟩
theorem cross_shape (a1 a2 b1 b2 c1 c2 d1 d2 : Int) (w : World) (h : [(a1, a2), (b1, b2), (c1, c2), (d1, d2)].all okP = true) (hs : (a1 = b1 ∧ a2 = b2) ∨ (c1 = d1 ∧ c2 = d2)) :
    Calls Try.prog 10 #[pt a1 a2, pt b1 b2, pt c1 c2, pt d1 d2] w fun e w' => e = .returned (.tuple #[.int .i64 0, .int .i64 25]) ∧ Below w.heap.size w w' := by
  have H := Lib.hid h
  clear h
  go_enter Try.func10, Try.ntmps10
  go_wp2_with fail
  refine (all_any _ _ _ _ [(a1, a2), (b1, b2), (c1, c2), (d1, d2)] _ rfl (by simp [maxLen]) (by simp) (ptsAt4 _ _ _ _ _ _ _ _ _ _ _ (by simp))).mono ?_
  rw [H.out]
  rintro e w1 ⟨rfl, hb1⟩
  obtain ⟨hc1, hf1⟩ := bcell hb1
  go_wp2
  all_goals (go_returns; exact ⟨rfl, (by (repeat' (first | (with_reducible exact Below.refl _ _) | (with_reducible assumption) | (with_reducible refine Below.alloc ?_ ?_ _) | (with_reducible refine Below.drew ?_) | (with_reducible refine below_drewN ?_ _) | (with_reducible refine Below.setCell ?_ ?_ _) | (exact Below.size (by with_reducible assumption)) | go_size)) : Below w.heap.size w _).trans (hb1.mono (by simp; omega))⟩)

theorem run_eqpt (a1 a2 b1 b2 : Int) (W : World) :
    (binOp .eql 23 (.agg #[.int .i64 a1, .int .i64 a2]) (.agg #[.int .i64 b1, .int .i64 b2])).run Try.prog W = .ok (.bool (decide (a1 = b1 ∧ a2 = b2))) W := by
  go_simp
  by_cases h : a1 = b1 <;> by_cases k : a2 = b2 <;> simp [h, k]

theorem cross_ok (a1 a2 b1 b2 c1 c2 d1 d2 : Int) (w : World) (ha : okP (a1, a2) = true) (hb : okP (b1, b2) = true) (hc : okP (c1, c2) = true) (hd : okP (d1, d2) = true) (hab : ¬ (a1 = b1 ∧ a2 = b2)) (hcd : ¬ (c1 = d1 ∧ c2 = d2)) :
    Calls Try.prog 10 #[pt a1 a2, pt b1 b2, pt c1 c2, pt d1 d2] w fun e w' => e = .returned (.tuple #[.int .i64 (crossZ (a1, a2) (b1, b2) (c1, c2) (d1, d2)), .int .i64 0]) ∧ Below w.heap.size w w' := by
  have H := Lib.hid (show [(a1, a2), (b1, b2), (c1, c2), (d1, d2)].all okP = true by simp [ha, hb, hc, hd])
  have h1 : ∀ W, (binOp .eql 23 (.agg #[.int .i64 a1, .int .i64 a2]) (.agg #[.int .i64 b1, .int .i64 b2])).run Try.prog W = .ok (.bool false) W := fun W => by rw [run_eqpt]; simp only [hab]; rfl
  have h2 : ∀ W, (binOp .eql 23 (.agg #[.int .i64 c1, .int .i64 c2]) (.agg #[.int .i64 d1, .int .i64 d2])).run Try.prog W = .ok (.bool false) W := fun W => by rw [run_eqpt]; simp only [hcd]; rfl
  clear hab hcd
  have HA := Lib.hid ha
  have HB := Lib.hid hb
  have HC := Lib.hid hc
  have HD := Lib.hid hd
  clear ha hb hc hd
  go_enter Try.func10, Try.ntmps10
  go_wp2_with fail
  refine (all_any _ _ _ _ [(a1, a2), (b1, b2), (c1, c2), (d1, d2)] _ rfl (by simp [maxLen]) (by simp) (ptsAt4 _ _ _ _ _ _ _ _ _ _ _ (by simp))).mono ?_
  rw [H.out]
  rintro e w1 ⟨rfl, hb1⟩
  have hF1 := ((Four.start w 23 a1 a2 b1 b2 c1 c2 d1 d2).alloc _).below hb1
  have hB1 := (show Below w.heap.size w _ from by (repeat' (first | (with_reducible exact Below.refl _ _) | (with_reducible assumption) | (with_reducible refine Below.alloc ?_ ?_ _) | (with_reducible refine Below.drew ?_) | (with_reducible refine below_drewN ?_ _) | (with_reducible refine Below.setCell ?_ ?_ _) | (exact Below.size (by with_reducible assumption)) | go_size))).trans (hb1.mono (by simp; omega))
  obtain ⟨hz1, e1, e2, e3, e4, e5, e6, e7, e8⟩ := id hF1
  clear hb1
  go_wp2_with (first
    | (go_at_call 40; (with_reducible refine (apart_ok _ _ _ _ _ _ _ _ _ (by first | exact HA.out | exact HC.out) (by first | exact HB.out | exact HD.out) (by first | exact HA.out | exact HC.out) (by first | exact HB.out | exact HD.out)).mono ?_); rintro e wn ⟨rfl, hbn⟩; have hF1 := hF1.below hbn; have hB1 := hB1.trans (hbn.mono hB1.size); obtain ⟨hz1, e1, e2, e3, e4, e5, e6, e7, e8⟩ := id hF1; clear hbn)
    | (go_at_call 41; (with_reducible refine (on_ok _ _ _ _ _ _ _ (by first | exact HA.out | exact HC.out) (by first | exact HB.out | exact HD.out) (by first | exact HA.out | exact HB.out | exact HC.out | exact HD.out)).mono ?_); rintro e wn ⟨rfl, hbn⟩; have hF1 := hF1.below hbn; have hB1 := hB1.trans (hbn.mono hB1.size); obtain ⟨hz1, e1, e2, e3, e4, e5, e6, e7, e8⟩ := id hF1; clear hbn))
  all_goals (go_returns; exact ⟨ret_ints (by simp_all [crossZ]) rfl, by assumption⟩)
end Go.Proofs.Ytcabnkclelgoeaa
