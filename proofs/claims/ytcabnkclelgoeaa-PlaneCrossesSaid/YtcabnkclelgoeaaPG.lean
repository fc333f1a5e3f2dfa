/- The law PlaneCrosses: the walk, a fraction comes out. -/
import Derived.Test.YtcabnkclelgoeaaPE
import Derived.Deep.RegionHeld3
import Derived.Deep.DrawnRows
namespace Go.Proofs.Ytcabnkclelgoeaa
set_option linter.unusedSimpArgs false
set_option linter.unusedVariables false
attribute [local go_sem ↓] Go.wp_at_zero Go.wp_at_succ
open Go.ChangeShapes Go.WideShapes Go.ChangeAt Go.RowKit

set_option maxRecDepth 100000 in
set_option maxHeartbeats 1000000 in
theorem crosses_n0 (a1 a2 b1 b2 c1 c2 d1 d2 K x y z q v D g : Int) (w : World)
    (HC : Hid (∀ W, Calls Try.prog 10 #[pt a1 a2, pt b1 b2, pt c1 c2, pt d1 d2] W fun e w' => e = .returned (.tuple #[.int .i64 K, .int .i64 0]) ∧ Below W.heap.size W w'))
    (OX : Hid (∀ W, Calls Try.prog 15 #[pt c1 c2, pt d1 d2, pt a1 a2] W fun e w' => e = .returned (.tuple #[.int .i64 x, .int .i64 0]) ∧ Below W.heap.size W w'))
    (OY : Hid (∀ W, Calls Try.prog 15 #[pt c1 c2, pt d1 d2, pt b1 b2] W fun e w' => e = .returned (.tuple #[.int .i64 y, .int .i64 0]) ∧ Below W.heap.size W w'))
    (OZ : Hid (∀ W, Calls Try.prog 15 #[pt a1 a2, pt b1 b2, pt c1 c2] W fun e w' => e = .returned (.tuple #[.int .i64 z, .int .i64 0]) ∧ Below W.heap.size W w'))
    (OQ : Hid (∀ W, Calls Try.prog 15 #[pt a1 a2, pt b1 b2, pt d1 d2] W fun e w' => e = .returned (.tuple #[.int .i64 q, .int .i64 0]) ∧ Below W.heap.size W w'))
    (p1 : -1 ≤ x * y) (p2 : x * y ≤ 1) (p3 : -1 ≤ z * q) (p4 : z * q ≤ 1) (TX : Hid (∀ W, Calls Try.prog 16 #[pt c1 c2, pt d1 d2, pt a1 a2] W fun e w' => e = .returned (.int .i64 0) ∧ Below W.heap.size W w')) (TY : Hid (∀ W, Calls Try.prog 16 #[pt c1 c2, pt d1 d2, pt b1 b2] W fun e w' => e = .returned (.int .i64 v) ∧ Below W.heap.size W w'))
    (HT : Hid (∀ W, Calls Try.prog 11 #[pt a1 a2, pt b1 b2, pt c1 c2, pt d1 d2] W fun e w' => e = .returned (fr ((0, D), 0)) ∧ Below W.heap.size W w')) (hg : 1 ≤ g) (hv0 : 0 ≤ v) (hv1 : v ≤ 2251799813685248) (hp2 : x * y ≤ 0) (hD : 1 ≤ D) (hD2 : D ≤ 1073741824) (hv : v = g * D) (hx : (x == 0) = true) (hy : (y == 0) = false) (hp : 0 ≤ x * y) (hK : (K == 2) = false) :
    Calls Try.prog 4 #[pt a1 a2, pt b1 b2, pt c1 c2, pt d1 d2] w fun e w' => e = .returned (.bool true) ∧ Below w.heap.size w w' := by
  have k1 : ((0 : Int) == D) = false := by rw [beq_eq_false_iff_ne]; omega
  have k2 : Int.tmod v D = 0 := by rw [hv]; exact Int.mul_tmod_left _ _
  have k3 : v % D = 0 := by rw [hv]; exact Int.mul_emod_left _ _
  have k4 : (D == 0) = false := by rw [beq_eq_false_iff_ne]; omega
  have k5 : (if 1 < D then D else 1) = D := by split <;> omega
  have k6 : IntKind.i64.wrap D = D := IntWalk.i64_in _ (by omega)
  clear hv
  go_enter Try.func4, Try.ntmps4
  go_wp2_with fail
  refine (awake_true _).mono ?_
  rintro e wn ⟨rfl, hbn⟩
  have hF1 := (Four.start w 23 a1 a2 b1 b2 c1 c2 d1 d2).below hbn
  have hB1 := (show Below w.heap.size w _ from by (repeat' (first | (with_reducible exact Below.refl _ _) | (with_reducible assumption) | (with_reducible refine Below.alloc ?_ ?_ _) | (with_reducible refine Below.drew ?_) | (with_reducible refine below_drewN ?_ _) | (with_reducible refine Below.setCell ?_ ?_ _) | (exact Below.size (by with_reducible assumption)) | go_size))).trans (hbn.mono (by simp; omega))
  clear hbn
  obtain ⟨hz1, e1, e2, e3, e4, e5, e6, e7, e8⟩ := id hF1; obtain ⟨l1, l2, l3, l4⟩ := hF1.lts
  go_wp2_with fail
  refine (HC.out _).mono ?_
  rintro e wn ⟨rfl, hbn⟩
  clear e1 e2 e3 e4 e5 e6 e7 e8 hz1 l1 l2 l3 l4
  have hF1 := hF1.below hbn; have hB1 := hB1.trans (hbn.mono hB1.size); clear hbn
  obtain ⟨hz1, e1, e2, e3, e4, e5, e6, e7, e8⟩ := id hF1; obtain ⟨l1, l2, l3, l4⟩ := hF1.lts
  go_wp2_with fail
  refine (OX.out _).mono ?_
  rintro e wn ⟨rfl, hbn⟩
  clear e1 e2 e3 e4 e5 e6 e7 e8 hz1 l1 l2 l3 l4
  have hF1 := hF1.below hbn; have hB1 := hB1.trans (hbn.mono hB1.size); clear hbn
  obtain ⟨hz1, e1, e2, e3, e4, e5, e6, e7, e8⟩ := id hF1; obtain ⟨l1, l2, l3, l4⟩ := hF1.lts
  go_wp2_with fail
  refine (OY.out _).mono ?_
  rintro e wn ⟨rfl, hbn⟩
  clear e1 e2 e3 e4 e5 e6 e7 e8 hz1 l1 l2 l3 l4
  have hF1 := hF1.below hbn; have hB1 := hB1.trans (hbn.mono hB1.size); clear hbn
  obtain ⟨hz1, e1, e2, e3, e4, e5, e6, e7, e8⟩ := id hF1; obtain ⟨l1, l2, l3, l4⟩ := hF1.lts
  go_wp2_with fail
  refine (OZ.out _).mono ?_
  rintro e wn ⟨rfl, hbn⟩
  clear e1 e2 e3 e4 e5 e6 e7 e8 hz1 l1 l2 l3 l4
  have hF1 := hF1.below hbn; have hB1 := hB1.trans (hbn.mono hB1.size); clear hbn
  obtain ⟨hz1, e1, e2, e3, e4, e5, e6, e7, e8⟩ := id hF1; obtain ⟨l1, l2, l3, l4⟩ := hF1.lts
  go_wp2_with fail
  refine (OQ.out _).mono ?_
  rintro e wn ⟨rfl, hbn⟩
  clear e1 e2 e3 e4 e5 e6 e7 e8 hz1 l1 l2 l3 l4
  have hF1 := hF1.below hbn; have hB1 := hB1.trans (hbn.mono hB1.size); clear hbn
  obtain ⟨hz1, e1, e2, e3, e4, e5, e6, e7, e8⟩ := id hF1; obtain ⟨l1, l2, l3, l4⟩ := hF1.lts
  go_wp2_with fail
  refine (HT.out _).mono ?_
  rintro e wd ⟨rfl, hbn⟩
  clear e1 e2 e3 e4 e5 e6 e7 e8 hz1 l1 l2 l3 l4
  have hF1 := hF1.below hbn; have hB1 := hB1.trans (hbn.mono hB1.size); clear hbn
  obtain ⟨hz1, e1, e2, e3, e4, e5, e6, e7, e8⟩ := id hF1; obtain ⟨l1, l2, l3, l4⟩ := hF1.lts
  go_wp2_with fail
  have hO := Out.start wd 29 0 D wd.heap.size rfl
  have hF1 := hF1.alloc (Obj.cells #[.int .i64 0, .int .i64 D] 29)
  have hB1 := hB1.alloc hB1.size (Obj.cells #[.int .i64 0, .int .i64 D] 29)
  have hF1 := hF1.drew
  have hB1 := hB1.drew
  have hO := Out.drew2 hO
  go_region_held3 (fun w' => w'.cell? ⟨w.heap.size, 0, none⟩ = some (.int .i64 a1) ∧ w'.cell? ⟨w.heap.size, 1, none⟩ = some (.int .i64 a2) ∧ w'.cell? ⟨w.heap.size + 1, 0, none⟩ = some (.int .i64 b1) ∧ w'.cell? ⟨w.heap.size + 1, 1, none⟩ = some (.int .i64 b2) ∧ w'.cell? ⟨w.heap.size + 1 + 1, 0, none⟩ = some (.int .i64 c1) ∧ w'.cell? ⟨w.heap.size + 1 + 1, 1, none⟩ = some (.int .i64 c2) ∧ w'.cell? ⟨w.heap.size + 1 + 1 + 1, 0, none⟩ = some (.int .i64 d1) ∧ w'.cell? ⟨w.heap.size + 1 + 1 + 1, 1, none⟩ = some (.int .i64 d2)) (exact hF1.2)
    (first
     | (go_at_call 16; (with_reducible refine (TX.out _).mono ?_); rintro e wn ⟨rfl, hbn⟩; have hF1 := hF1.below hbn; have hO := hO.below hbn; have hB1 := hB1.trans (hbn.mono hB1.size); clear hbn)
     | (go_at_call 16; (with_reducible refine (TY.out _).mono ?_); rintro e wn ⟨rfl, hbn⟩; have hF1 := hF1.below hbn; have hO := hO.below hbn; have hB1 := hB1.trans (hbn.mono hB1.size); clear hbn))
  obtain ⟨hz1, e1, e2, e3, e4, e5, e6, e7, e8⟩ := id hF1; obtain ⟨l1, l2, l3, l4⟩ := hF1.lts; obtain ⟨hy1, o1', o2', o3', o4'⟩ := id hO
  go_wp2_with fail
  go_quiet (fail)
  go_wp2
  all_goals (go_returns; exact ⟨by first | rfl | exact ret_bool (by simp), below_drewN hB1 _⟩)
set_option maxRecDepth 100000 in
set_option maxHeartbeats 1000000 in
theorem crosses_nd (a1 a2 b1 b2 c1 c2 d1 d2 K x y z q u N g : Int) (w : World)
    (HC : Hid (∀ W, Calls Try.prog 10 #[pt a1 a2, pt b1 b2, pt c1 c2, pt d1 d2] W fun e w' => e = .returned (.tuple #[.int .i64 K, .int .i64 0]) ∧ Below W.heap.size W w'))
    (OX : Hid (∀ W, Calls Try.prog 15 #[pt c1 c2, pt d1 d2, pt a1 a2] W fun e w' => e = .returned (.tuple #[.int .i64 x, .int .i64 0]) ∧ Below W.heap.size W w'))
    (OY : Hid (∀ W, Calls Try.prog 15 #[pt c1 c2, pt d1 d2, pt b1 b2] W fun e w' => e = .returned (.tuple #[.int .i64 y, .int .i64 0]) ∧ Below W.heap.size W w'))
    (OZ : Hid (∀ W, Calls Try.prog 15 #[pt a1 a2, pt b1 b2, pt c1 c2] W fun e w' => e = .returned (.tuple #[.int .i64 z, .int .i64 0]) ∧ Below W.heap.size W w'))
    (OQ : Hid (∀ W, Calls Try.prog 15 #[pt a1 a2, pt b1 b2, pt d1 d2] W fun e w' => e = .returned (.tuple #[.int .i64 q, .int .i64 0]) ∧ Below W.heap.size W w'))
    (p1 : -1 ≤ x * y) (p2 : x * y ≤ 1) (p3 : -1 ≤ z * q) (p4 : z * q ≤ 1) (TX : Hid (∀ W, Calls Try.prog 16 #[pt c1 c2, pt d1 d2, pt a1 a2] W fun e w' => e = .returned (.int .i64 u) ∧ Below W.heap.size W w')) (TY : Hid (∀ W, Calls Try.prog 16 #[pt c1 c2, pt d1 d2, pt b1 b2] W fun e w' => e = .returned (.int .i64 0) ∧ Below W.heap.size W w'))
    (HT : Hid (∀ W, Calls Try.prog 11 #[pt a1 a2, pt b1 b2, pt c1 c2, pt d1 d2] W fun e w' => e = .returned (fr ((N, N), 0)) ∧ Below W.heap.size W w')) (hg : 1 ≤ g) (hu0 : 0 ≤ u) (hu1 : u ≤ 2251799813685248) (hp2 : x * y ≤ 0) (hN : 1 ≤ N) (hN2 : N ≤ 1073741824) (hu : u = g * N) (hx : (x == 0) = false) (hy : (y == 0) = true) (hp : 0 ≤ x * y) (hK : (K == 2) = false) :
    Calls Try.prog 4 #[pt a1 a2, pt b1 b2, pt c1 c2, pt d1 d2] w fun e w' => e = .returned (.bool true) ∧ Below w.heap.size w w' := by
  have k1 : (N == 0) = false := by rw [beq_eq_false_iff_ne]; omega
  have k2 : Int.tmod u N = 0 := by rw [hu]; exact Int.mul_tmod_left _ _
  have k3 : u % N = 0 := by rw [hu]; exact Int.mul_emod_left _ _
  have k5 : (if 1 < N then N else 1) = N := by split <;> omega
  clear hu
  go_enter Try.func4, Try.ntmps4
  go_wp2_with fail
  refine (awake_true _).mono ?_
  rintro e wn ⟨rfl, hbn⟩
  have hF1 := (Four.start w 23 a1 a2 b1 b2 c1 c2 d1 d2).below hbn
  have hB1 := (show Below w.heap.size w _ from by (repeat' (first | (with_reducible exact Below.refl _ _) | (with_reducible assumption) | (with_reducible refine Below.alloc ?_ ?_ _) | (with_reducible refine Below.drew ?_) | (with_reducible refine below_drewN ?_ _) | (with_reducible refine Below.setCell ?_ ?_ _) | (exact Below.size (by with_reducible assumption)) | go_size))).trans (hbn.mono (by simp; omega))
  clear hbn
  obtain ⟨hz1, e1, e2, e3, e4, e5, e6, e7, e8⟩ := id hF1; obtain ⟨l1, l2, l3, l4⟩ := hF1.lts
  go_wp2_with fail
  refine (HC.out _).mono ?_
  rintro e wn ⟨rfl, hbn⟩
  clear e1 e2 e3 e4 e5 e6 e7 e8 hz1 l1 l2 l3 l4
  have hF1 := hF1.below hbn; have hB1 := hB1.trans (hbn.mono hB1.size); clear hbn
  obtain ⟨hz1, e1, e2, e3, e4, e5, e6, e7, e8⟩ := id hF1; obtain ⟨l1, l2, l3, l4⟩ := hF1.lts
  go_wp2_with fail
  refine (OX.out _).mono ?_
  rintro e wn ⟨rfl, hbn⟩
  clear e1 e2 e3 e4 e5 e6 e7 e8 hz1 l1 l2 l3 l4
  have hF1 := hF1.below hbn; have hB1 := hB1.trans (hbn.mono hB1.size); clear hbn
  obtain ⟨hz1, e1, e2, e3, e4, e5, e6, e7, e8⟩ := id hF1; obtain ⟨l1, l2, l3, l4⟩ := hF1.lts
  go_wp2_with fail
  refine (OY.out _).mono ?_
  rintro e wn ⟨rfl, hbn⟩
  clear e1 e2 e3 e4 e5 e6 e7 e8 hz1 l1 l2 l3 l4
  have hF1 := hF1.below hbn; have hB1 := hB1.trans (hbn.mono hB1.size); clear hbn
  obtain ⟨hz1, e1, e2, e3, e4, e5, e6, e7, e8⟩ := id hF1; obtain ⟨l1, l2, l3, l4⟩ := hF1.lts
  go_wp2_with fail
  refine (OZ.out _).mono ?_
  rintro e wn ⟨rfl, hbn⟩
  clear e1 e2 e3 e4 e5 e6 e7 e8 hz1 l1 l2 l3 l4
  have hF1 := hF1.below hbn; have hB1 := hB1.trans (hbn.mono hB1.size); clear hbn
  obtain ⟨hz1, e1, e2, e3, e4, e5, e6, e7, e8⟩ := id hF1; obtain ⟨l1, l2, l3, l4⟩ := hF1.lts
  go_wp2_with fail
  refine (OQ.out _).mono ?_
  rintro e wn ⟨rfl, hbn⟩
  clear e1 e2 e3 e4 e5 e6 e7 e8 hz1 l1 l2 l3 l4
  have hF1 := hF1.below hbn; have hB1 := hB1.trans (hbn.mono hB1.size); clear hbn
  obtain ⟨hz1, e1, e2, e3, e4, e5, e6, e7, e8⟩ := id hF1; obtain ⟨l1, l2, l3, l4⟩ := hF1.lts
  go_wp2_with fail
  refine (HT.out _).mono ?_
  rintro e wd ⟨rfl, hbn⟩
  clear e1 e2 e3 e4 e5 e6 e7 e8 hz1 l1 l2 l3 l4
  have hF1 := hF1.below hbn; have hB1 := hB1.trans (hbn.mono hB1.size); clear hbn
  obtain ⟨hz1, e1, e2, e3, e4, e5, e6, e7, e8⟩ := id hF1; obtain ⟨l1, l2, l3, l4⟩ := hF1.lts
  go_wp2_with fail
  have hO := Out.start wd 29 N N wd.heap.size rfl
  have hF1 := hF1.alloc (Obj.cells #[.int .i64 N, .int .i64 N] 29)
  have hB1 := hB1.alloc hB1.size (Obj.cells #[.int .i64 N, .int .i64 N] 29)
  have hF1 := hF1.drew
  have hB1 := hB1.drew
  have hO := Out.drew2 hO
  go_region_held3 (fun w' => w'.cell? ⟨w.heap.size, 0, none⟩ = some (.int .i64 a1) ∧ w'.cell? ⟨w.heap.size, 1, none⟩ = some (.int .i64 a2) ∧ w'.cell? ⟨w.heap.size + 1, 0, none⟩ = some (.int .i64 b1) ∧ w'.cell? ⟨w.heap.size + 1, 1, none⟩ = some (.int .i64 b2) ∧ w'.cell? ⟨w.heap.size + 1 + 1, 0, none⟩ = some (.int .i64 c1) ∧ w'.cell? ⟨w.heap.size + 1 + 1, 1, none⟩ = some (.int .i64 c2) ∧ w'.cell? ⟨w.heap.size + 1 + 1 + 1, 0, none⟩ = some (.int .i64 d1) ∧ w'.cell? ⟨w.heap.size + 1 + 1 + 1, 1, none⟩ = some (.int .i64 d2)) (exact hF1.2)
    (first
     | (go_at_call 16; (with_reducible refine (TX.out _).mono ?_); rintro e wn ⟨rfl, hbn⟩; have hF1 := hF1.below hbn; have hO := hO.below hbn; have hB1 := hB1.trans (hbn.mono hB1.size); clear hbn)
     | (go_at_call 16; (with_reducible refine (TY.out _).mono ?_); rintro e wn ⟨rfl, hbn⟩; have hF1 := hF1.below hbn; have hO := hO.below hbn; have hB1 := hB1.trans (hbn.mono hB1.size); clear hbn))
  obtain ⟨hz1, e1, e2, e3, e4, e5, e6, e7, e8⟩ := id hF1; obtain ⟨l1, l2, l3, l4⟩ := hF1.lts; obtain ⟨hy1, o1', o2', o3', o4'⟩ := id hO
  go_wp2_with fail
  go_quiet (fail)
  go_wp2
  all_goals (go_returns; exact ⟨by first | rfl | exact ret_bool (by simp), below_drewN hB1 _⟩)
set_option maxRecDepth 100000 in
set_option maxHeartbeats 1000000 in
theorem crosses_in_b (a1 a2 b1 b2 c1 c2 d1 d2 K x y z q u v N D g : Int) (w : World)
    (HC : Hid (∀ W, Calls Try.prog 10 #[pt a1 a2, pt b1 b2, pt c1 c2, pt d1 d2] W fun e w' => e = .returned (.tuple #[.int .i64 K, .int .i64 0]) ∧ Below W.heap.size W w'))
    (OX : Hid (∀ W, Calls Try.prog 15 #[pt c1 c2, pt d1 d2, pt a1 a2] W fun e w' => e = .returned (.tuple #[.int .i64 x, .int .i64 0]) ∧ Below W.heap.size W w'))
    (OY : Hid (∀ W, Calls Try.prog 15 #[pt c1 c2, pt d1 d2, pt b1 b2] W fun e w' => e = .returned (.tuple #[.int .i64 y, .int .i64 0]) ∧ Below W.heap.size W w'))
    (OZ : Hid (∀ W, Calls Try.prog 15 #[pt a1 a2, pt b1 b2, pt c1 c2] W fun e w' => e = .returned (.tuple #[.int .i64 z, .int .i64 0]) ∧ Below W.heap.size W w'))
    (OQ : Hid (∀ W, Calls Try.prog 15 #[pt a1 a2, pt b1 b2, pt d1 d2] W fun e w' => e = .returned (.tuple #[.int .i64 q, .int .i64 0]) ∧ Below W.heap.size W w'))
    (p1 : -1 ≤ x * y) (p2 : x * y ≤ 1) (p3 : -1 ≤ z * q) (p4 : z * q ≤ 1) (TX : Hid (∀ W, Calls Try.prog 16 #[pt c1 c2, pt d1 d2, pt a1 a2] W fun e w' => e = .returned (.int .i64 u) ∧ Below W.heap.size W w')) (TY : Hid (∀ W, Calls Try.prog 16 #[pt c1 c2, pt d1 d2, pt b1 b2] W fun e w' => e = .returned (.int .i64 v) ∧ Below W.heap.size W w'))
    (HT : Hid (∀ W, Calls Try.prog 11 #[pt a1 a2, pt b1 b2, pt c1 c2, pt d1 d2] W fun e w' => e = .returned (fr ((N, D), 0)) ∧ Below W.heap.size W w')) (hg : 1 ≤ g) (hu0 : 0 ≤ u) (hv0 : 0 ≤ v) (hu1 : u ≤ 2251799813685248) (hv1 : v ≤ 2251799813685248) (hp2 : x * y ≤ 0) (hN : 1 ≤ N) (hND : N < D) (hD2 : D ≤ 1073741824) (hu : u = g * N) (hv : v = g * (D - N)) (hx : (x == 0) = false) (hy : (y == 0) = false) (hp : x * y < 0) (hq : z * q < 0) (hK : (K == 2) = true) :
    Calls Try.prog 4 #[pt a1 a2, pt b1 b2, pt c1 c2, pt d1 d2] w fun e w' => e = .returned (.bool true) ∧ Below w.heap.size w w' := by
  have k1 : (N == 0) = false := by rw [beq_eq_false_iff_ne]; omega
  have k2 : Int.tmod u N = 0 := by rw [hu]; exact Int.mul_tmod_left _ _
  have k3 : u % N = 0 := by rw [hu]; exact Int.mul_emod_left _ _
  have k4 : (N == D) = false := by rw [beq_eq_false_iff_ne]; omega
  have k5 : Int.tmod v (D - N) = 0 := by rw [hv]; exact Int.mul_tmod_left _ _
  have k6 : v % (D - N) = 0 := by rw [hv]; exact Int.mul_emod_left _ _
  have k7 : (D - N == 0) = false := by rw [beq_eq_false_iff_ne]; omega
  have k8 : u / N = g := by rw [hu]; exact Int.mul_ediv_cancel _ (by omega)
  have k9 : v / (D - N) = g := by rw [hv]; exact Int.mul_ediv_cancel _ (by omega)
  have k10 : Int.tdiv u N = g := by rw [Int.tdiv_eq_ediv_of_nonneg hu0]; exact k8
  have k11 : Int.tdiv v (D - N) = g := by rw [Int.tdiv_eq_ediv_of_nonneg hv0]; exact k9
  have k12 : IntKind.i64.wrap (D - N) = D - N := IntWalk.i64_in _ (by omega)
  have k14 : (if 1 < N then N else 1) = N := by split <;> omega
  have k15 : (if 1 < D - N then D - N else 1) = D - N := by split <;> omega
  have k13 : g ≤ 2251799813685248 := by
    have : g * 1 ≤ g * N := Int.mul_le_mul_of_nonneg_left hN (by omega)
    omega
  clear hu hv
  go_enter Try.func4, Try.ntmps4
  go_wp2_with fail
  refine (awake_true _).mono ?_
  rintro e wn ⟨rfl, hbn⟩
  have hF1 := (Four.start w 23 a1 a2 b1 b2 c1 c2 d1 d2).below hbn
  have hB1 := (show Below w.heap.size w _ from by (repeat' (first | (with_reducible exact Below.refl _ _) | (with_reducible assumption) | (with_reducible refine Below.alloc ?_ ?_ _) | (with_reducible refine Below.drew ?_) | (with_reducible refine below_drewN ?_ _) | (with_reducible refine Below.setCell ?_ ?_ _) | (exact Below.size (by with_reducible assumption)) | go_size))).trans (hbn.mono (by simp; omega))
  clear hbn
  obtain ⟨hz1, e1, e2, e3, e4, e5, e6, e7, e8⟩ := id hF1; obtain ⟨l1, l2, l3, l4⟩ := hF1.lts
  go_wp2_with fail
  refine (HC.out _).mono ?_
  rintro e wn ⟨rfl, hbn⟩
  clear e1 e2 e3 e4 e5 e6 e7 e8 hz1 l1 l2 l3 l4
  have hF1 := hF1.below hbn; have hB1 := hB1.trans (hbn.mono hB1.size); clear hbn
  obtain ⟨hz1, e1, e2, e3, e4, e5, e6, e7, e8⟩ := id hF1; obtain ⟨l1, l2, l3, l4⟩ := hF1.lts
  go_wp2_with fail
  refine (OX.out _).mono ?_
  rintro e wn ⟨rfl, hbn⟩
  clear e1 e2 e3 e4 e5 e6 e7 e8 hz1 l1 l2 l3 l4
  have hF1 := hF1.below hbn; have hB1 := hB1.trans (hbn.mono hB1.size); clear hbn
  obtain ⟨hz1, e1, e2, e3, e4, e5, e6, e7, e8⟩ := id hF1; obtain ⟨l1, l2, l3, l4⟩ := hF1.lts
  go_wp2_with fail
  refine (OY.out _).mono ?_
  rintro e wn ⟨rfl, hbn⟩
  clear e1 e2 e3 e4 e5 e6 e7 e8 hz1 l1 l2 l3 l4
  have hF1 := hF1.below hbn; have hB1 := hB1.trans (hbn.mono hB1.size); clear hbn
  obtain ⟨hz1, e1, e2, e3, e4, e5, e6, e7, e8⟩ := id hF1; obtain ⟨l1, l2, l3, l4⟩ := hF1.lts
  go_wp2_with fail
  refine (OZ.out _).mono ?_
  rintro e wn ⟨rfl, hbn⟩
  clear e1 e2 e3 e4 e5 e6 e7 e8 hz1 l1 l2 l3 l4
  have hF1 := hF1.below hbn; have hB1 := hB1.trans (hbn.mono hB1.size); clear hbn
  obtain ⟨hz1, e1, e2, e3, e4, e5, e6, e7, e8⟩ := id hF1; obtain ⟨l1, l2, l3, l4⟩ := hF1.lts
  go_wp2_with fail
  refine (OQ.out _).mono ?_
  rintro e wn ⟨rfl, hbn⟩
  clear e1 e2 e3 e4 e5 e6 e7 e8 hz1 l1 l2 l3 l4
  have hF1 := hF1.below hbn; have hB1 := hB1.trans (hbn.mono hB1.size); clear hbn
  obtain ⟨hz1, e1, e2, e3, e4, e5, e6, e7, e8⟩ := id hF1; obtain ⟨l1, l2, l3, l4⟩ := hF1.lts
  go_wp2_with fail
  refine (HT.out _).mono ?_
  rintro e wd ⟨rfl, hbn⟩
  clear e1 e2 e3 e4 e5 e6 e7 e8 hz1 l1 l2 l3 l4
  have hF1 := hF1.below hbn; have hB1 := hB1.trans (hbn.mono hB1.size); clear hbn
  obtain ⟨hz1, e1, e2, e3, e4, e5, e6, e7, e8⟩ := id hF1; obtain ⟨l1, l2, l3, l4⟩ := hF1.lts
  go_wp2_with fail
  have hO := Out.start wd 29 N D wd.heap.size rfl
  have hF1 := hF1.alloc (Obj.cells #[.int .i64 N, .int .i64 D] 29)
  have hB1 := hB1.alloc hB1.size (Obj.cells #[.int .i64 N, .int .i64 D] 29)
  have hF1 := hF1.drew
  have hB1 := hB1.drew
  have hO := Out.drew2 hO
  go_region_held3 (fun w' => w'.cell? ⟨w.heap.size, 0, none⟩ = some (.int .i64 a1) ∧ w'.cell? ⟨w.heap.size, 1, none⟩ = some (.int .i64 a2) ∧ w'.cell? ⟨w.heap.size + 1, 0, none⟩ = some (.int .i64 b1) ∧ w'.cell? ⟨w.heap.size + 1, 1, none⟩ = some (.int .i64 b2) ∧ w'.cell? ⟨w.heap.size + 1 + 1, 0, none⟩ = some (.int .i64 c1) ∧ w'.cell? ⟨w.heap.size + 1 + 1, 1, none⟩ = some (.int .i64 c2) ∧ w'.cell? ⟨w.heap.size + 1 + 1 + 1, 0, none⟩ = some (.int .i64 d1) ∧ w'.cell? ⟨w.heap.size + 1 + 1 + 1, 1, none⟩ = some (.int .i64 d2)) (exact hF1.2)
    (first
     | (go_at_call 16; (with_reducible refine (TX.out _).mono ?_); rintro e wn ⟨rfl, hbn⟩; have hF1 := hF1.below hbn; have hO := hO.below hbn; have hB1 := hB1.trans (hbn.mono hB1.size); clear hbn)
     | (go_at_call 16; (with_reducible refine (TY.out _).mono ?_); rintro e wn ⟨rfl, hbn⟩; have hF1 := hF1.below hbn; have hO := hO.below hbn; have hB1 := hB1.trans (hbn.mono hB1.size); clear hbn))
  obtain ⟨hz1, e1, e2, e3, e4, e5, e6, e7, e8⟩ := id hF1; obtain ⟨l1, l2, l3, l4⟩ := hF1.lts; obtain ⟨hy1, o1', o2', o3', o4'⟩ := id hO
  go_wp2_with fail
  go_quiet (fail)
  go_wp2
  all_goals (go_returns; exact ⟨by first | rfl | exact ret_bool (by simp), below_drewN hB1 _⟩)
set_option maxRecDepth 100000 in
set_option maxHeartbeats 1000000 in
theorem crosses_in_c (a1 a2 b1 b2 c1 c2 d1 d2 K x y z q u v N D g : Int) (w : World)
    (HC : Hid (∀ W, Calls Try.prog 10 #[pt a1 a2, pt b1 b2, pt c1 c2, pt d1 d2] W fun e w' => e = .returned (.tuple #[.int .i64 K, .int .i64 0]) ∧ Below W.heap.size W w'))
    (OX : Hid (∀ W, Calls Try.prog 15 #[pt c1 c2, pt d1 d2, pt a1 a2] W fun e w' => e = .returned (.tuple #[.int .i64 x, .int .i64 0]) ∧ Below W.heap.size W w'))
    (OY : Hid (∀ W, Calls Try.prog 15 #[pt c1 c2, pt d1 d2, pt b1 b2] W fun e w' => e = .returned (.tuple #[.int .i64 y, .int .i64 0]) ∧ Below W.heap.size W w'))
    (OZ : Hid (∀ W, Calls Try.prog 15 #[pt a1 a2, pt b1 b2, pt c1 c2] W fun e w' => e = .returned (.tuple #[.int .i64 z, .int .i64 0]) ∧ Below W.heap.size W w'))
    (OQ : Hid (∀ W, Calls Try.prog 15 #[pt a1 a2, pt b1 b2, pt d1 d2] W fun e w' => e = .returned (.tuple #[.int .i64 q, .int .i64 0]) ∧ Below W.heap.size W w'))
    (p1 : -1 ≤ x * y) (p2 : x * y ≤ 1) (p3 : -1 ≤ z * q) (p4 : z * q ≤ 1) (TX : Hid (∀ W, Calls Try.prog 16 #[pt c1 c2, pt d1 d2, pt a1 a2] W fun e w' => e = .returned (.int .i64 u) ∧ Below W.heap.size W w')) (TY : Hid (∀ W, Calls Try.prog 16 #[pt c1 c2, pt d1 d2, pt b1 b2] W fun e w' => e = .returned (.int .i64 v) ∧ Below W.heap.size W w'))
    (HT : Hid (∀ W, Calls Try.prog 11 #[pt a1 a2, pt b1 b2, pt c1 c2, pt d1 d2] W fun e w' => e = .returned (fr ((N, D), 0)) ∧ Below W.heap.size W w')) (hg : 1 ≤ g) (hu0 : 0 ≤ u) (hv0 : 0 ≤ v) (hu1 : u ≤ 2251799813685248) (hv1 : v ≤ 2251799813685248) (hp2 : x * y ≤ 0) (hN : 1 ≤ N) (hND : N < D) (hD2 : D ≤ 1073741824) (hu : u = g * N) (hv : v = g * (D - N)) (hx : (x == 0) = false) (hy : (y == 0) = false) (hp : x * y < 0) (hq : 0 ≤ z * q) (hK : (K == 2) = false) :
    Calls Try.prog 4 #[pt a1 a2, pt b1 b2, pt c1 c2, pt d1 d2] w fun e w' => e = .returned (.bool true) ∧ Below w.heap.size w w' := by
  have k1 : (N == 0) = false := by rw [beq_eq_false_iff_ne]; omega
  have k2 : Int.tmod u N = 0 := by rw [hu]; exact Int.mul_tmod_left _ _
  have k3 : u % N = 0 := by rw [hu]; exact Int.mul_emod_left _ _
  have k4 : (N == D) = false := by rw [beq_eq_false_iff_ne]; omega
  have k5 : Int.tmod v (D - N) = 0 := by rw [hv]; exact Int.mul_tmod_left _ _
  have k6 : v % (D - N) = 0 := by rw [hv]; exact Int.mul_emod_left _ _
  have k7 : (D - N == 0) = false := by rw [beq_eq_false_iff_ne]; omega
  have k8 : u / N = g := by rw [hu]; exact Int.mul_ediv_cancel _ (by omega)
  have k9 : v / (D - N) = g := by rw [hv]; exact Int.mul_ediv_cancel _ (by omega)
  have k10 : Int.tdiv u N = g := by rw [Int.tdiv_eq_ediv_of_nonneg hu0]; exact k8
  have k11 : Int.tdiv v (D - N) = g := by rw [Int.tdiv_eq_ediv_of_nonneg hv0]; exact k9
  have k12 : IntKind.i64.wrap (D - N) = D - N := IntWalk.i64_in _ (by omega)
  have k14 : (if 1 < N then N else 1) = N := by split <;> omega
  have k15 : (if 1 < D - N then D - N else 1) = D - N := by split <;> omega
  have k13 : g ≤ 2251799813685248 := by
    have : g * 1 ≤ g * N := Int.mul_le_mul_of_nonneg_left hN (by omega)
    omega
  clear hu hv
  go_enter Try.func4, Try.ntmps4
  go_wp2_with fail
  refine (awake_true _).mono ?_
  rintro e wn ⟨rfl, hbn⟩
  have hF1 := (Four.start w 23 a1 a2 b1 b2 c1 c2 d1 d2).below hbn
  have hB1 := (show Below w.heap.size w _ from by (repeat' (first | (with_reducible exact Below.refl _ _) | (with_reducible assumption) | (with_reducible refine Below.alloc ?_ ?_ _) | (with_reducible refine Below.drew ?_) | (with_reducible refine below_drewN ?_ _) | (with_reducible refine Below.setCell ?_ ?_ _) | (exact Below.size (by with_reducible assumption)) | go_size))).trans (hbn.mono (by simp; omega))
  clear hbn
  obtain ⟨hz1, e1, e2, e3, e4, e5, e6, e7, e8⟩ := id hF1; obtain ⟨l1, l2, l3, l4⟩ := hF1.lts
  go_wp2_with fail
  refine (HC.out _).mono ?_
  rintro e wn ⟨rfl, hbn⟩
  clear e1 e2 e3 e4 e5 e6 e7 e8 hz1 l1 l2 l3 l4
  have hF1 := hF1.below hbn; have hB1 := hB1.trans (hbn.mono hB1.size); clear hbn
  obtain ⟨hz1, e1, e2, e3, e4, e5, e6, e7, e8⟩ := id hF1; obtain ⟨l1, l2, l3, l4⟩ := hF1.lts
  go_wp2_with fail
  refine (OX.out _).mono ?_
  rintro e wn ⟨rfl, hbn⟩
  clear e1 e2 e3 e4 e5 e6 e7 e8 hz1 l1 l2 l3 l4
  have hF1 := hF1.below hbn; have hB1 := hB1.trans (hbn.mono hB1.size); clear hbn
  obtain ⟨hz1, e1, e2, e3, e4, e5, e6, e7, e8⟩ := id hF1; obtain ⟨l1, l2, l3, l4⟩ := hF1.lts
  go_wp2_with fail
  refine (OY.out _).mono ?_
  rintro e wn ⟨rfl, hbn⟩
  clear e1 e2 e3 e4 e5 e6 e7 e8 hz1 l1 l2 l3 l4
  have hF1 := hF1.below hbn; have hB1 := hB1.trans (hbn.mono hB1.size); clear hbn
  obtain ⟨hz1, e1, e2, e3, e4, e5, e6, e7, e8⟩ := id hF1; obtain ⟨l1, l2, l3, l4⟩ := hF1.lts
  go_wp2_with fail
  refine (OZ.out _).mono ?_
  rintro e wn ⟨rfl, hbn⟩
  clear e1 e2 e3 e4 e5 e6 e7 e8 hz1 l1 l2 l3 l4
  have hF1 := hF1.below hbn; have hB1 := hB1.trans (hbn.mono hB1.size); clear hbn
  obtain ⟨hz1, e1, e2, e3, e4, e5, e6, e7, e8⟩ := id hF1; obtain ⟨l1, l2, l3, l4⟩ := hF1.lts
  go_wp2_with fail
  refine (OQ.out _).mono ?_
  rintro e wn ⟨rfl, hbn⟩
  clear e1 e2 e3 e4 e5 e6 e7 e8 hz1 l1 l2 l3 l4
  have hF1 := hF1.below hbn; have hB1 := hB1.trans (hbn.mono hB1.size); clear hbn
  obtain ⟨hz1, e1, e2, e3, e4, e5, e6, e7, e8⟩ := id hF1; obtain ⟨l1, l2, l3, l4⟩ := hF1.lts
  go_wp2_with fail
  refine (HT.out _).mono ?_
  rintro e wd ⟨rfl, hbn⟩
  clear e1 e2 e3 e4 e5 e6 e7 e8 hz1 l1 l2 l3 l4
  have hF1 := hF1.below hbn; have hB1 := hB1.trans (hbn.mono hB1.size); clear hbn
  obtain ⟨hz1, e1, e2, e3, e4, e5, e6, e7, e8⟩ := id hF1; obtain ⟨l1, l2, l3, l4⟩ := hF1.lts
  go_wp2_with fail
  have hO := Out.start wd 29 N D wd.heap.size rfl
  have hF1 := hF1.alloc (Obj.cells #[.int .i64 N, .int .i64 D] 29)
  have hB1 := hB1.alloc hB1.size (Obj.cells #[.int .i64 N, .int .i64 D] 29)
  have hF1 := hF1.drew
  have hB1 := hB1.drew
  have hO := Out.drew2 hO
  go_region_held3 (fun w' => w'.cell? ⟨w.heap.size, 0, none⟩ = some (.int .i64 a1) ∧ w'.cell? ⟨w.heap.size, 1, none⟩ = some (.int .i64 a2) ∧ w'.cell? ⟨w.heap.size + 1, 0, none⟩ = some (.int .i64 b1) ∧ w'.cell? ⟨w.heap.size + 1, 1, none⟩ = some (.int .i64 b2) ∧ w'.cell? ⟨w.heap.size + 1 + 1, 0, none⟩ = some (.int .i64 c1) ∧ w'.cell? ⟨w.heap.size + 1 + 1, 1, none⟩ = some (.int .i64 c2) ∧ w'.cell? ⟨w.heap.size + 1 + 1 + 1, 0, none⟩ = some (.int .i64 d1) ∧ w'.cell? ⟨w.heap.size + 1 + 1 + 1, 1, none⟩ = some (.int .i64 d2)) (exact hF1.2)
    (first
     | (go_at_call 16; (with_reducible refine (TX.out _).mono ?_); rintro e wn ⟨rfl, hbn⟩; have hF1 := hF1.below hbn; have hO := hO.below hbn; have hB1 := hB1.trans (hbn.mono hB1.size); clear hbn)
     | (go_at_call 16; (with_reducible refine (TY.out _).mono ?_); rintro e wn ⟨rfl, hbn⟩; have hF1 := hF1.below hbn; have hO := hO.below hbn; have hB1 := hB1.trans (hbn.mono hB1.size); clear hbn))
  obtain ⟨hz1, e1, e2, e3, e4, e5, e6, e7, e8⟩ := id hF1; obtain ⟨l1, l2, l3, l4⟩ := hF1.lts; obtain ⟨hy1, o1', o2', o3', o4'⟩ := id hO
  go_wp2_with fail
  go_quiet (fail)
  go_wp2
  all_goals (go_returns; exact ⟨by first | rfl | exact ret_bool (by simp), below_drewN hB1 _⟩)
end Go.Proofs.Ytcabnkclelgoeaa
