/- The law PlaneCrosses: the walk, case by case. -/
import Derived.Test.YtcabnkclelgoeaaPE
import Derived.Deep.RegionHeld3
import Derived.Deep.DrawnRows
namespace Go.Proofs.Ytcabnkclelgoeaa
set_option linter.unusedSimpArgs false
set_option linter.unusedVariables false
attribute [local go_sem ↓] Go.wp_at_zero Go.wp_at_succ
open Go.ChangeShapes Go.WideShapes Go.ChangeAt Go.RowKit

set_option maxRecDepth 100000 in
set_option maxHeartbeats 1000000 in
theorem crosses_zero (a1 a2 b1 b2 c1 c2 d1 d2 K x y z q : Int) (w : World)
    (HC : Hid (∀ W, Calls Try.prog 10 #[pt a1 a2, pt b1 b2, pt c1 c2, pt d1 d2] W fun e w' => e = .returned (.tuple #[.int .i64 K, .int .i64 0]) ∧ Below W.heap.size W w'))
    (OX : Hid (∀ W, Calls Try.prog 15 #[pt c1 c2, pt d1 d2, pt a1 a2] W fun e w' => e = .returned (.tuple #[.int .i64 x, .int .i64 0]) ∧ Below W.heap.size W w'))
    (OY : Hid (∀ W, Calls Try.prog 15 #[pt c1 c2, pt d1 d2, pt b1 b2] W fun e w' => e = .returned (.tuple #[.int .i64 y, .int .i64 0]) ∧ Below W.heap.size W w'))
    (OZ : Hid (∀ W, Calls Try.prog 15 #[pt a1 a2, pt b1 b2, pt c1 c2] W fun e w' => e = .returned (.tuple #[.int .i64 z, .int .i64 0]) ∧ Below W.heap.size W w'))
    (OQ : Hid (∀ W, Calls Try.prog 15 #[pt a1 a2, pt b1 b2, pt d1 d2] W fun e w' => e = .returned (.tuple #[.int .i64 q, .int .i64 0]) ∧ Below W.heap.size W w'))
    (p1 : -1 ≤ x * y) (p2 : x * y ≤ 1) (p3 : -1 ≤ z * q) (p4 : z * q ≤ 1)
    (HT : Hid (∀ W, Calls Try.prog 11 #[pt a1 a2, pt b1 b2, pt c1 c2, pt d1 d2] W fun e w' => e = .returned (fr ((0, 0), 16)) ∧ Below W.heap.size W w')) (hp : 0 ≤ x * y) (hK : (K == 2) = false) (hxy : (x == y) = true) :
    Calls Try.prog 4 #[pt a1 a2, pt b1 b2, pt c1 c2, pt d1 d2] w fun e w' => e = .returned (.bool true) ∧ Below w.heap.size w w' := by
  have hKn : (K != 2) = true := by rw [bne, hK]; rfl
  go_enter Try.func4, Try.ntmps4
  go_wp2_with fail
  refine (awake_true _).mono ?_
  rintro e wn ⟨rfl, hbn⟩
  have hF1 := (Four.start w 23 a1 a2 b1 b2 c1 c2 d1 d2).below hbn
  have hB1 := (show Below w.heap.size w _ from by (repeat' (first | (with_reducible exact Below.refl _ _) | (with_reducible assumption) | (with_reducible refine Below.alloc ?_ ?_ _) | (with_reducible refine Below.drew ?_) | (with_reducible refine below_drewN ?_ _) | (with_reducible refine Below.setCell ?_ ?_ _) | (exact Below.size (by with_reducible assumption)) | go_size))).trans (hbn.mono (by simp; omega))
  clear hbn
  obtain ⟨hz1, e1, e2, e3, e4, e5, e6, e7, e8⟩ := id hF1; obtain ⟨l1, l2, l3, l4⟩ := hF1.lts
  go_wp2_with fail
  refine (HC.out _).mono ?_
  rintro e wn ⟨rfl, hbn⟩
  clear e1 e2 e3 e4 e5 e6 e7 e8 hz1 l1 l2 l3 l4
  have hF1 := hF1.below hbn; have hB1 := hB1.trans (hbn.mono hB1.size); clear hbn
  obtain ⟨hz1, e1, e2, e3, e4, e5, e6, e7, e8⟩ := id hF1; obtain ⟨l1, l2, l3, l4⟩ := hF1.lts
  go_wp2_with fail
  refine (OX.out _).mono ?_
  rintro e wn ⟨rfl, hbn⟩
  clear e1 e2 e3 e4 e5 e6 e7 e8 hz1 l1 l2 l3 l4
  have hF1 := hF1.below hbn; have hB1 := hB1.trans (hbn.mono hB1.size); clear hbn
  obtain ⟨hz1, e1, e2, e3, e4, e5, e6, e7, e8⟩ := id hF1; obtain ⟨l1, l2, l3, l4⟩ := hF1.lts
  go_wp2_with fail
  refine (OY.out _).mono ?_
  rintro e wn ⟨rfl, hbn⟩
  clear e1 e2 e3 e4 e5 e6 e7 e8 hz1 l1 l2 l3 l4
  have hF1 := hF1.below hbn; have hB1 := hB1.trans (hbn.mono hB1.size); clear hbn
  obtain ⟨hz1, e1, e2, e3, e4, e5, e6, e7, e8⟩ := id hF1; obtain ⟨l1, l2, l3, l4⟩ := hF1.lts
  go_wp2_with fail
  refine (OZ.out _).mono ?_
  rintro e wn ⟨rfl, hbn⟩
  clear e1 e2 e3 e4 e5 e6 e7 e8 hz1 l1 l2 l3 l4
  have hF1 := hF1.below hbn; have hB1 := hB1.trans (hbn.mono hB1.size); clear hbn
  obtain ⟨hz1, e1, e2, e3, e4, e5, e6, e7, e8⟩ := id hF1; obtain ⟨l1, l2, l3, l4⟩ := hF1.lts
  go_wp2_with fail
  refine (OQ.out _).mono ?_
  rintro e wn ⟨rfl, hbn⟩
  clear e1 e2 e3 e4 e5 e6 e7 e8 hz1 l1 l2 l3 l4
  have hF1 := hF1.below hbn; have hB1 := hB1.trans (hbn.mono hB1.size); clear hbn
  obtain ⟨hz1, e1, e2, e3, e4, e5, e6, e7, e8⟩ := id hF1; obtain ⟨l1, l2, l3, l4⟩ := hF1.lts
  go_wp2_with fail
  refine (HT.out _).mono ?_
  rintro e wd ⟨rfl, hbn⟩
  clear e1 e2 e3 e4 e5 e6 e7 e8 hz1 l1 l2 l3 l4
  have hF1 := hF1.below hbn; have hB1 := hB1.trans (hbn.mono hB1.size); clear hbn
  obtain ⟨hz1, e1, e2, e3, e4, e5, e6, e7, e8⟩ := id hF1; obtain ⟨l1, l2, l3, l4⟩ := hF1.lts
  go_wp2
  all_goals (go_returns; exact ⟨by first | rfl | exact ret_bool (by simp), by (repeat' (first | (with_reducible exact Below.refl _ _) | (with_reducible assumption) | (with_reducible refine Below.alloc ?_ ?_ _) | (with_reducible refine Below.drew ?_) | (with_reducible refine below_drewN ?_ _) | (with_reducible refine Below.setCell ?_ ?_ _) | (exact Below.size (by with_reducible assumption)) | go_size))⟩)
set_option maxRecDepth 100000 in
set_option maxHeartbeats 1000000 in
theorem crosses_range (a1 a2 b1 b2 c1 c2 d1 d2 K x y z q : Int) (w : World)
    (HC : Hid (∀ W, Calls Try.prog 10 #[pt a1 a2, pt b1 b2, pt c1 c2, pt d1 d2] W fun e w' => e = .returned (.tuple #[.int .i64 K, .int .i64 0]) ∧ Below W.heap.size W w'))
    (OX : Hid (∀ W, Calls Try.prog 15 #[pt c1 c2, pt d1 d2, pt a1 a2] W fun e w' => e = .returned (.tuple #[.int .i64 x, .int .i64 0]) ∧ Below W.heap.size W w'))
    (OY : Hid (∀ W, Calls Try.prog 15 #[pt c1 c2, pt d1 d2, pt b1 b2] W fun e w' => e = .returned (.tuple #[.int .i64 y, .int .i64 0]) ∧ Below W.heap.size W w'))
    (OZ : Hid (∀ W, Calls Try.prog 15 #[pt a1 a2, pt b1 b2, pt c1 c2] W fun e w' => e = .returned (.tuple #[.int .i64 z, .int .i64 0]) ∧ Below W.heap.size W w'))
    (OQ : Hid (∀ W, Calls Try.prog 15 #[pt a1 a2, pt b1 b2, pt d1 d2] W fun e w' => e = .returned (.tuple #[.int .i64 q, .int .i64 0]) ∧ Below W.heap.size W w'))
    (p1 : -1 ≤ x * y) (p2 : x * y ≤ 1) (p3 : -1 ≤ z * q) (p4 : z * q ≤ 1)
    (HT : Hid (∀ W, Calls Try.prog 11 #[pt a1 a2, pt b1 b2, pt c1 c2, pt d1 d2] W fun e w' => e = .returned (fr ((0, 0), 2)) ∧ Below W.heap.size W w')) (hp : 0 ≤ x * y) (hK : (K == 2) = false) :
    Calls Try.prog 4 #[pt a1 a2, pt b1 b2, pt c1 c2, pt d1 d2] w fun e w' => e = .returned (.bool true) ∧ Below w.heap.size w w' := by
  have hKn : (K != 2) = true := by rw [bne, hK]; rfl
  go_enter Try.func4, Try.ntmps4
  go_wp2_with fail
  refine (awake_true _).mono ?_
  rintro e wn ⟨rfl, hbn⟩
  have hF1 := (Four.start w 23 a1 a2 b1 b2 c1 c2 d1 d2).below hbn
  have hB1 := (show Below w.heap.size w _ from by (repeat' (first | (with_reducible exact Below.refl _ _) | (with_reducible assumption) | (with_reducible refine Below.alloc ?_ ?_ _) | (with_reducible refine Below.drew ?_) | (with_reducible refine below_drewN ?_ _) | (with_reducible refine Below.setCell ?_ ?_ _) | (exact Below.size (by with_reducible assumption)) | go_size))).trans (hbn.mono (by simp; omega))
  clear hbn
  obtain ⟨hz1, e1, e2, e3, e4, e5, e6, e7, e8⟩ := id hF1; obtain ⟨l1, l2, l3, l4⟩ := hF1.lts
  go_wp2_with fail
  refine (HC.out _).mono ?_
  rintro e wn ⟨rfl, hbn⟩
  clear e1 e2 e3 e4 e5 e6 e7 e8 hz1 l1 l2 l3 l4
  have hF1 := hF1.below hbn; have hB1 := hB1.trans (hbn.mono hB1.size); clear hbn
  obtain ⟨hz1, e1, e2, e3, e4, e5, e6, e7, e8⟩ := id hF1; obtain ⟨l1, l2, l3, l4⟩ := hF1.lts
  go_wp2_with fail
  refine (OX.out _).mono ?_
  rintro e wn ⟨rfl, hbn⟩
  clear e1 e2 e3 e4 e5 e6 e7 e8 hz1 l1 l2 l3 l4
  have hF1 := hF1.below hbn; have hB1 := hB1.trans (hbn.mono hB1.size); clear hbn
  obtain ⟨hz1, e1, e2, e3, e4, e5, e6, e7, e8⟩ := id hF1; obtain ⟨l1, l2, l3, l4⟩ := hF1.lts
  go_wp2_with fail
  refine (OY.out _).mono ?_
  rintro e wn ⟨rfl, hbn⟩
  clear e1 e2 e3 e4 e5 e6 e7 e8 hz1 l1 l2 l3 l4
  have hF1 := hF1.below hbn; have hB1 := hB1.trans (hbn.mono hB1.size); clear hbn
  obtain ⟨hz1, e1, e2, e3, e4, e5, e6, e7, e8⟩ := id hF1; obtain ⟨l1, l2, l3, l4⟩ := hF1.lts
  go_wp2_with fail
  refine (OZ.out _).mono ?_
  rintro e wn ⟨rfl, hbn⟩
  clear e1 e2 e3 e4 e5 e6 e7 e8 hz1 l1 l2 l3 l4
  have hF1 := hF1.below hbn; have hB1 := hB1.trans (hbn.mono hB1.size); clear hbn
  obtain ⟨hz1, e1, e2, e3, e4, e5, e6, e7, e8⟩ := id hF1; obtain ⟨l1, l2, l3, l4⟩ := hF1.lts
  go_wp2_with fail
  refine (OQ.out _).mono ?_
  rintro e wn ⟨rfl, hbn⟩
  clear e1 e2 e3 e4 e5 e6 e7 e8 hz1 l1 l2 l3 l4
  have hF1 := hF1.below hbn; have hB1 := hB1.trans (hbn.mono hB1.size); clear hbn
  obtain ⟨hz1, e1, e2, e3, e4, e5, e6, e7, e8⟩ := id hF1; obtain ⟨l1, l2, l3, l4⟩ := hF1.lts
  go_wp2_with fail
  refine (HT.out _).mono ?_
  rintro e wd ⟨rfl, hbn⟩
  clear e1 e2 e3 e4 e5 e6 e7 e8 hz1 l1 l2 l3 l4
  have hF1 := hF1.below hbn; have hB1 := hB1.trans (hbn.mono hB1.size); clear hbn
  obtain ⟨hz1, e1, e2, e3, e4, e5, e6, e7, e8⟩ := id hF1; obtain ⟨l1, l2, l3, l4⟩ := hF1.lts
  go_wp2
  all_goals (go_returns; exact ⟨by first | rfl | exact ret_bool (by simp), by (repeat' (first | (with_reducible exact Below.refl _ _) | (with_reducible assumption) | (with_reducible refine Below.alloc ?_ ?_ _) | (with_reducible refine Below.drew ?_) | (with_reducible refine below_drewN ?_ _) | (with_reducible refine Below.setCell ?_ ?_ _) | (exact Below.size (by with_reducible assumption)) | go_size))⟩)
set_option maxRecDepth 100000 in
set_option maxHeartbeats 1000000 in
theorem crosses_big_a (a1 a2 b1 b2 c1 c2 d1 d2 K x y z q : Int) (w : World)
    (HC : Hid (∀ W, Calls Try.prog 10 #[pt a1 a2, pt b1 b2, pt c1 c2, pt d1 d2] W fun e w' => e = .returned (.tuple #[.int .i64 K, .int .i64 0]) ∧ Below W.heap.size W w'))
    (OX : Hid (∀ W, Calls Try.prog 15 #[pt c1 c2, pt d1 d2, pt a1 a2] W fun e w' => e = .returned (.tuple #[.int .i64 x, .int .i64 0]) ∧ Below W.heap.size W w'))
    (OY : Hid (∀ W, Calls Try.prog 15 #[pt c1 c2, pt d1 d2, pt b1 b2] W fun e w' => e = .returned (.tuple #[.int .i64 y, .int .i64 0]) ∧ Below W.heap.size W w'))
    (OZ : Hid (∀ W, Calls Try.prog 15 #[pt a1 a2, pt b1 b2, pt c1 c2] W fun e w' => e = .returned (.tuple #[.int .i64 z, .int .i64 0]) ∧ Below W.heap.size W w'))
    (OQ : Hid (∀ W, Calls Try.prog 15 #[pt a1 a2, pt b1 b2, pt d1 d2] W fun e w' => e = .returned (.tuple #[.int .i64 q, .int .i64 0]) ∧ Below W.heap.size W w'))
    (p1 : -1 ≤ x * y) (p2 : x * y ≤ 1) (p3 : -1 ≤ z * q) (p4 : z * q ≤ 1)
    (HT : Hid (∀ W, Calls Try.prog 11 #[pt a1 a2, pt b1 b2, pt c1 c2, pt d1 d2] W fun e w' => e = .returned (fr ((0, 0), 5)) ∧ Below W.heap.size W w')) (hp : 0 ≤ x * y) (hK : (K == 2) = false) :
    Calls Try.prog 4 #[pt a1 a2, pt b1 b2, pt c1 c2, pt d1 d2] w fun e w' => e = .returned (.bool true) ∧ Below w.heap.size w w' := by
  go_enter Try.func4, Try.ntmps4
  go_wp2_with fail
  refine (awake_true _).mono ?_
  rintro e wn ⟨rfl, hbn⟩
  have hF1 := (Four.start w 23 a1 a2 b1 b2 c1 c2 d1 d2).below hbn
  have hB1 := (show Below w.heap.size w _ from by (repeat' (first | (with_reducible exact Below.refl _ _) | (with_reducible assumption) | (with_reducible refine Below.alloc ?_ ?_ _) | (with_reducible refine Below.drew ?_) | (with_reducible refine below_drewN ?_ _) | (with_reducible refine Below.setCell ?_ ?_ _) | (exact Below.size (by with_reducible assumption)) | go_size))).trans (hbn.mono (by simp; omega))
  clear hbn
  obtain ⟨hz1, e1, e2, e3, e4, e5, e6, e7, e8⟩ := id hF1; obtain ⟨l1, l2, l3, l4⟩ := hF1.lts
  go_wp2_with fail
  refine (HC.out _).mono ?_
  rintro e wn ⟨rfl, hbn⟩
  clear e1 e2 e3 e4 e5 e6 e7 e8 hz1 l1 l2 l3 l4
  have hF1 := hF1.below hbn; have hB1 := hB1.trans (hbn.mono hB1.size); clear hbn
  obtain ⟨hz1, e1, e2, e3, e4, e5, e6, e7, e8⟩ := id hF1; obtain ⟨l1, l2, l3, l4⟩ := hF1.lts
  go_wp2_with fail
  refine (OX.out _).mono ?_
  rintro e wn ⟨rfl, hbn⟩
  clear e1 e2 e3 e4 e5 e6 e7 e8 hz1 l1 l2 l3 l4
  have hF1 := hF1.below hbn; have hB1 := hB1.trans (hbn.mono hB1.size); clear hbn
  obtain ⟨hz1, e1, e2, e3, e4, e5, e6, e7, e8⟩ := id hF1; obtain ⟨l1, l2, l3, l4⟩ := hF1.lts
  go_wp2_with fail
  refine (OY.out _).mono ?_
  rintro e wn ⟨rfl, hbn⟩
  clear e1 e2 e3 e4 e5 e6 e7 e8 hz1 l1 l2 l3 l4
  have hF1 := hF1.below hbn; have hB1 := hB1.trans (hbn.mono hB1.size); clear hbn
  obtain ⟨hz1, e1, e2, e3, e4, e5, e6, e7, e8⟩ := id hF1; obtain ⟨l1, l2, l3, l4⟩ := hF1.lts
  go_wp2_with fail
  refine (OZ.out _).mono ?_
  rintro e wn ⟨rfl, hbn⟩
  clear e1 e2 e3 e4 e5 e6 e7 e8 hz1 l1 l2 l3 l4
  have hF1 := hF1.below hbn; have hB1 := hB1.trans (hbn.mono hB1.size); clear hbn
  obtain ⟨hz1, e1, e2, e3, e4, e5, e6, e7, e8⟩ := id hF1; obtain ⟨l1, l2, l3, l4⟩ := hF1.lts
  go_wp2_with fail
  refine (OQ.out _).mono ?_
  rintro e wn ⟨rfl, hbn⟩
  clear e1 e2 e3 e4 e5 e6 e7 e8 hz1 l1 l2 l3 l4
  have hF1 := hF1.below hbn; have hB1 := hB1.trans (hbn.mono hB1.size); clear hbn
  obtain ⟨hz1, e1, e2, e3, e4, e5, e6, e7, e8⟩ := id hF1; obtain ⟨l1, l2, l3, l4⟩ := hF1.lts
  go_wp2_with fail
  refine (HT.out _).mono ?_
  rintro e wd ⟨rfl, hbn⟩
  clear e1 e2 e3 e4 e5 e6 e7 e8 hz1 l1 l2 l3 l4
  have hF1 := hF1.below hbn; have hB1 := hB1.trans (hbn.mono hB1.size); clear hbn
  obtain ⟨hz1, e1, e2, e3, e4, e5, e6, e7, e8⟩ := id hF1; obtain ⟨l1, l2, l3, l4⟩ := hF1.lts
  go_wp2
  all_goals (go_returns; exact ⟨by first | rfl | exact ret_bool (by simp), by (repeat' (first | (with_reducible exact Below.refl _ _) | (with_reducible assumption) | (with_reducible refine Below.alloc ?_ ?_ _) | (with_reducible refine Below.drew ?_) | (with_reducible refine below_drewN ?_ _) | (with_reducible refine Below.setCell ?_ ?_ _) | (exact Below.size (by with_reducible assumption)) | go_size))⟩)
set_option maxRecDepth 100000 in
set_option maxHeartbeats 1000000 in
theorem crosses_big_b (a1 a2 b1 b2 c1 c2 d1 d2 K x y z q : Int) (w : World)
    (HC : Hid (∀ W, Calls Try.prog 10 #[pt a1 a2, pt b1 b2, pt c1 c2, pt d1 d2] W fun e w' => e = .returned (.tuple #[.int .i64 K, .int .i64 0]) ∧ Below W.heap.size W w'))
    (OX : Hid (∀ W, Calls Try.prog 15 #[pt c1 c2, pt d1 d2, pt a1 a2] W fun e w' => e = .returned (.tuple #[.int .i64 x, .int .i64 0]) ∧ Below W.heap.size W w'))
    (OY : Hid (∀ W, Calls Try.prog 15 #[pt c1 c2, pt d1 d2, pt b1 b2] W fun e w' => e = .returned (.tuple #[.int .i64 y, .int .i64 0]) ∧ Below W.heap.size W w'))
    (OZ : Hid (∀ W, Calls Try.prog 15 #[pt a1 a2, pt b1 b2, pt c1 c2] W fun e w' => e = .returned (.tuple #[.int .i64 z, .int .i64 0]) ∧ Below W.heap.size W w'))
    (OQ : Hid (∀ W, Calls Try.prog 15 #[pt a1 a2, pt b1 b2, pt d1 d2] W fun e w' => e = .returned (.tuple #[.int .i64 q, .int .i64 0]) ∧ Below W.heap.size W w'))
    (p1 : -1 ≤ x * y) (p2 : x * y ≤ 1) (p3 : -1 ≤ z * q) (p4 : z * q ≤ 1)
    (HT : Hid (∀ W, Calls Try.prog 11 #[pt a1 a2, pt b1 b2, pt c1 c2, pt d1 d2] W fun e w' => e = .returned (fr ((0, 0), 5)) ∧ Below W.heap.size W w')) (hp : x * y < 0) (hq : z * q < 0) (hK : (K == 2) = true) :
    Calls Try.prog 4 #[pt a1 a2, pt b1 b2, pt c1 c2, pt d1 d2] w fun e w' => e = .returned (.bool true) ∧ Below w.heap.size w w' := by
  go_enter Try.func4, Try.ntmps4
  go_wp2_with fail
  refine (awake_true _).mono ?_
  rintro e wn ⟨rfl, hbn⟩
  have hF1 := (Four.start w 23 a1 a2 b1 b2 c1 c2 d1 d2).below hbn
  have hB1 := (show Below w.heap.size w _ from by (repeat' (first | (with_reducible exact Below.refl _ _) | (with_reducible assumption) | (with_reducible refine Below.alloc ?_ ?_ _) | (with_reducible refine Below.drew ?_) | (with_reducible refine below_drewN ?_ _) | (with_reducible refine Below.setCell ?_ ?_ _) | (exact Below.size (by with_reducible assumption)) | go_size))).trans (hbn.mono (by simp; omega))
  clear hbn
  obtain ⟨hz1, e1, e2, e3, e4, e5, e6, e7, e8⟩ := id hF1; obtain ⟨l1, l2, l3, l4⟩ := hF1.lts
  go_wp2_with fail
  refine (HC.out _).mono ?_
  rintro e wn ⟨rfl, hbn⟩
  clear e1 e2 e3 e4 e5 e6 e7 e8 hz1 l1 l2 l3 l4
  have hF1 := hF1.below hbn; have hB1 := hB1.trans (hbn.mono hB1.size); clear hbn
  obtain ⟨hz1, e1, e2, e3, e4, e5, e6, e7, e8⟩ := id hF1; obtain ⟨l1, l2, l3, l4⟩ := hF1.lts
  go_wp2_with fail
  refine (OX.out _).mono ?_
  rintro e wn ⟨rfl, hbn⟩
  clear e1 e2 e3 e4 e5 e6 e7 e8 hz1 l1 l2 l3 l4
  have hF1 := hF1.below hbn; have hB1 := hB1.trans (hbn.mono hB1.size); clear hbn
  obtain ⟨hz1, e1, e2, e3, e4, e5, e6, e7, e8⟩ := id hF1; obtain ⟨l1, l2, l3, l4⟩ := hF1.lts
  go_wp2_with fail
  refine (OY.out _).mono ?_
  rintro e wn ⟨rfl, hbn⟩
  clear e1 e2 e3 e4 e5 e6 e7 e8 hz1 l1 l2 l3 l4
  have hF1 := hF1.below hbn; have hB1 := hB1.trans (hbn.mono hB1.size); clear hbn
  obtain ⟨hz1, e1, e2, e3, e4, e5, e6, e7, e8⟩ := id hF1; obtain ⟨l1, l2, l3, l4⟩ := hF1.lts
  go_wp2_with fail
  refine (OZ.out _).mono ?_
  rintro e wn ⟨rfl, hbn⟩
  clear e1 e2 e3 e4 e5 e6 e7 e8 hz1 l1 l2 l3 l4
  have hF1 := hF1.below hbn; have hB1 := hB1.trans (hbn.mono hB1.size); clear hbn
  obtain ⟨hz1, e1, e2, e3, e4, e5, e6, e7, e8⟩ := id hF1; obtain ⟨l1, l2, l3, l4⟩ := hF1.lts
  go_wp2_with fail
  refine (OQ.out _).mono ?_
  rintro e wn ⟨rfl, hbn⟩
  clear e1 e2 e3 e4 e5 e6 e7 e8 hz1 l1 l2 l3 l4
  have hF1 := hF1.below hbn; have hB1 := hB1.trans (hbn.mono hB1.size); clear hbn
  obtain ⟨hz1, e1, e2, e3, e4, e5, e6, e7, e8⟩ := id hF1; obtain ⟨l1, l2, l3, l4⟩ := hF1.lts
  go_wp2_with fail
  refine (HT.out _).mono ?_
  rintro e wd ⟨rfl, hbn⟩
  clear e1 e2 e3 e4 e5 e6 e7 e8 hz1 l1 l2 l3 l4
  have hF1 := hF1.below hbn; have hB1 := hB1.trans (hbn.mono hB1.size); clear hbn
  obtain ⟨hz1, e1, e2, e3, e4, e5, e6, e7, e8⟩ := id hF1; obtain ⟨l1, l2, l3, l4⟩ := hF1.lts
  go_wp2
  all_goals (go_returns; exact ⟨by first | rfl | exact ret_bool (by simp), by (repeat' (first | (with_reducible exact Below.refl _ _) | (with_reducible assumption) | (with_reducible refine Below.alloc ?_ ?_ _) | (with_reducible refine Below.drew ?_) | (with_reducible refine below_drewN ?_ _) | (with_reducible refine Below.setCell ?_ ?_ _) | (exact Below.size (by with_reducible assumption)) | go_size))⟩)
set_option maxRecDepth 100000 in
set_option maxHeartbeats 1000000 in
theorem crosses_big_c (a1 a2 b1 b2 c1 c2 d1 d2 K x y z q : Int) (w : World)
    (HC : Hid (∀ W, Calls Try.prog 10 #[pt a1 a2, pt b1 b2, pt c1 c2, pt d1 d2] W fun e w' => e = .returned (.tuple #[.int .i64 K, .int .i64 0]) ∧ Below W.heap.size W w'))
    (OX : Hid (∀ W, Calls Try.prog 15 #[pt c1 c2, pt d1 d2, pt a1 a2] W fun e w' => e = .returned (.tuple #[.int .i64 x, .int .i64 0]) ∧ Below W.heap.size W w'))
    (OY : Hid (∀ W, Calls Try.prog 15 #[pt c1 c2, pt d1 d2, pt b1 b2] W fun e w' => e = .returned (.tuple #[.int .i64 y, .int .i64 0]) ∧ Below W.heap.size W w'))
    (OZ : Hid (∀ W, Calls Try.prog 15 #[pt a1 a2, pt b1 b2, pt c1 c2] W fun e w' => e = .returned (.tuple #[.int .i64 z, .int .i64 0]) ∧ Below W.heap.size W w'))
    (OQ : Hid (∀ W, Calls Try.prog 15 #[pt a1 a2, pt b1 b2, pt d1 d2] W fun e w' => e = .returned (.tuple #[.int .i64 q, .int .i64 0]) ∧ Below W.heap.size W w'))
    (p1 : -1 ≤ x * y) (p2 : x * y ≤ 1) (p3 : -1 ≤ z * q) (p4 : z * q ≤ 1)
    (HT : Hid (∀ W, Calls Try.prog 11 #[pt a1 a2, pt b1 b2, pt c1 c2, pt d1 d2] W fun e w' => e = .returned (fr ((0, 0), 5)) ∧ Below W.heap.size W w')) (hp : x * y < 0) (hq : 0 ≤ z * q) (hK : (K == 2) = false) :
    Calls Try.prog 4 #[pt a1 a2, pt b1 b2, pt c1 c2, pt d1 d2] w fun e w' => e = .returned (.bool true) ∧ Below w.heap.size w w' := by
  go_enter Try.func4, Try.ntmps4
  go_wp2_with fail
  refine (awake_true _).mono ?_
  rintro e wn ⟨rfl, hbn⟩
  have hF1 := (Four.start w 23 a1 a2 b1 b2 c1 c2 d1 d2).below hbn
  have hB1 := (show Below w.heap.size w _ from by (repeat' (first | (with_reducible exact Below.refl _ _) | (with_reducible assumption) | (with_reducible refine Below.alloc ?_ ?_ _) | (with_reducible refine Below.drew ?_) | (with_reducible refine below_drewN ?_ _) | (with_reducible refine Below.setCell ?_ ?_ _) | (exact Below.size (by with_reducible assumption)) | go_size))).trans (hbn.mono (by simp; omega))
  clear hbn
  obtain ⟨hz1, e1, e2, e3, e4, e5, e6, e7, e8⟩ := id hF1; obtain ⟨l1, l2, l3, l4⟩ := hF1.lts
  go_wp2_with fail
  refine (HC.out _).mono ?_
  rintro e wn ⟨rfl, hbn⟩
  clear e1 e2 e3 e4 e5 e6 e7 e8 hz1 l1 l2 l3 l4
  have hF1 := hF1.below hbn; have hB1 := hB1.trans (hbn.mono hB1.size); clear hbn
  obtain ⟨hz1, e1, e2, e3, e4, e5, e6, e7, e8⟩ := id hF1; obtain ⟨l1, l2, l3, l4⟩ := hF1.lts
  go_wp2_with fail
  refine (OX.out _).mono ?_
  rintro e wn ⟨rfl, hbn⟩
  clear e1 e2 e3 e4 e5 e6 e7 e8 hz1 l1 l2 l3 l4
  have hF1 := hF1.below hbn; have hB1 := hB1.trans (hbn.mono hB1.size); clear hbn
  obtain ⟨hz1, e1, e2, e3, e4, e5, e6, e7, e8⟩ := id hF1; obtain ⟨l1, l2, l3, l4⟩ := hF1.lts
  go_wp2_with fail
  refine (OY.out _).mono ?_
  rintro e wn ⟨rfl, hbn⟩
  clear e1 e2 e3 e4 e5 e6 e7 e8 hz1 l1 l2 l3 l4
  have hF1 := hF1.below hbn; have hB1 := hB1.trans (hbn.mono hB1.size); clear hbn
  obtain ⟨hz1, e1, e2, e3, e4, e5, e6, e7, e8⟩ := id hF1; obtain ⟨l1, l2, l3, l4⟩ := hF1.lts
  go_wp2_with fail
  refine (OZ.out _).mono ?_
  rintro e wn ⟨rfl, hbn⟩
  clear e1 e2 e3 e4 e5 e6 e7 e8 hz1 l1 l2 l3 l4
  have hF1 := hF1.below hbn; have hB1 := hB1.trans (hbn.mono hB1.size); clear hbn
  obtain ⟨hz1, e1, e2, e3, e4, e5, e6, e7, e8⟩ := id hF1; obtain ⟨l1, l2, l3, l4⟩ := hF1.lts
  go_wp2_with fail
  refine (OQ.out _).mono ?_
  rintro e wn ⟨rfl, hbn⟩
  clear e1 e2 e3 e4 e5 e6 e7 e8 hz1 l1 l2 l3 l4
  have hF1 := hF1.below hbn; have hB1 := hB1.trans (hbn.mono hB1.size); clear hbn
  obtain ⟨hz1, e1, e2, e3, e4, e5, e6, e7, e8⟩ := id hF1; obtain ⟨l1, l2, l3, l4⟩ := hF1.lts
  go_wp2_with fail
  refine (HT.out _).mono ?_
  rintro e wd ⟨rfl, hbn⟩
  clear e1 e2 e3 e4 e5 e6 e7 e8 hz1 l1 l2 l3 l4
  have hF1 := hF1.below hbn; have hB1 := hB1.trans (hbn.mono hB1.size); clear hbn
  obtain ⟨hz1, e1, e2, e3, e4, e5, e6, e7, e8⟩ := id hF1; obtain ⟨l1, l2, l3, l4⟩ := hF1.lts
  go_wp2
  all_goals (go_returns; exact ⟨by first | rfl | exact ret_bool (by simp), by (repeat' (first | (with_reducible exact Below.refl _ _) | (with_reducible assumption) | (with_reducible refine Below.alloc ?_ ?_ _) | (with_reducible refine Below.drew ?_) | (with_reducible refine below_drewN ?_ _) | (with_reducible refine Below.setCell ?_ ?_ _) | (exact Below.size (by with_reducible assumption)) | go_size))⟩)
end Go.Proofs.Ytcabnkclelgoeaa
