/- Walks of Orient, Near, Inside. -/
import Derived.Test.YtcabnkclelgoeaaO
import Derived.Deep.RegionHeld3
import Derived.Deep.DrawnRows
namespace Go.Proofs.Ytcabnkclelgoeaa
set_option linter.unusedSimpArgs false
set_option linter.unusedVariables false
attribute [local go_sem ↓] Go.wp_at_zero Go.wp_at_succ
open Go.ChangeShapes Go.WideShapes Go.ChangeAt Go.RowKit

theorem orient_arg (a1 a2 b1 b2 c1 c2 : Int) (w : World) (h : [(a1, a2), (b1, b2), (c1, c2)].all okP = false) :
    Calls Try.prog 15 #[pt a1 a2, pt b1 b2, pt c1 c2] w fun e w' => e = .returned (.tuple #[.int .i64 0, .int .i64 1]) ∧ Below w.heap.size w w' := by
  have H := Lib.hid h
  clear h
  go_enter Try.func15, Try.ntmps15
  go_wp2_with fail
  refine (all_any _ _ _ _ [(a1, a2), (b1, b2), (c1, c2)] _ rfl (by simp [maxLen]) (by simp) (ptsAt3 _ _ _ _ _ _ _ _ _ (by simp))).mono ?_
  rw [H.out]
  rintro e w1 ⟨rfl, hb1⟩
  go_wp2
  go_returns
  exact ⟨rfl, (by (repeat' (first | (with_reducible exact Below.refl _ _) | (with_reducible assumption) | (with_reducible refine Below.alloc ?_ ?_ _) | (with_reducible refine Below.drew ?_) | (with_reducible refine below_drewN ?_ _) | (with_reducible refine Below.setCell ?_ ?_ _) | (exact Below.size (by with_reducible assumption)) | go_size)) : Below w.heap.size w _).trans (hb1.mono (by simp; omega))⟩
theorem orient_ok (a1 a2 b1 b2 c1 c2 : Int) (w : World) (ha : okP (a1, a2) = true) (hb : okP (b1, b2) = true) (hc : okP (c1, c2) = true) :
    Calls Try.prog 15 #[pt a1 a2, pt b1 b2, pt c1 c2] w fun e w' => e = .returned (.tuple #[.int .i64 (cmpZ (turnZ (a1, a2) (b1, b2) (c1, c2)) 0), .int .i64 0]) ∧ Below w.heap.size w w' := by
  have H := Lib.hid (show [(a1, a2), (b1, b2), (c1, c2)].all okP = true by simp [ha, hb, hc])
  have HT := Lib.hid (fun W => turn_ok a1 a2 b1 b2 c1 c2 W ha hb hc)
  clear ha hb hc
  go_enter Try.func15, Try.ntmps15
  go_wp2_with fail
  refine (all_any _ _ _ _ [(a1, a2), (b1, b2), (c1, c2)] _ rfl (by simp [maxLen]) (by simp) (ptsAt3 _ _ _ _ _ _ _ _ _ (by simp))).mono ?_
  rw [H.out]
  rintro e w1 ⟨rfl, hb1⟩
  have hF1 := ((Three.start w 23 a1 a2 b1 b2 c1 c2).alloc _).below hb1
  have hB1 := (show Below w.heap.size w _ from by (repeat' (first | (with_reducible exact Below.refl _ _) | (with_reducible assumption) | (with_reducible refine Below.alloc ?_ ?_ _) | (with_reducible refine Below.drew ?_) | (with_reducible refine below_drewN ?_ _) | (with_reducible refine Below.setCell ?_ ?_ _) | (exact Below.size (by with_reducible assumption)) | go_size))).trans (hb1.mono (by simp; omega))
  obtain ⟨hz1, e1, e2, e3, e4, e5, e6⟩ := id hF1; obtain ⟨l1, l2, l3⟩ := hF1.lts
  clear hb1
  go_wp2_with fail
  refine (HT.out _).mono ?_
  rintro e wn ⟨rfl, hbn⟩
  have hF1 := hF1.below hbn; have hB1 := hB1.trans (hbn.mono hB1.size); clear hbn
  go_wp2_with (go_at_call 45; (with_reducible refine (compare_any _ _ _).mono ?_); rintro e wx ⟨rfl, rfl⟩)
  go_returns
  exact ⟨rfl, by assumption⟩
theorem near_arg (a1 a2 b1 b2 c1 c2 : Int) (w : World) (h : [(a1, a2), (b1, b2), (c1, c2)].all okP = false) :
    Calls Try.prog 20 #[pt a1 a2, pt b1 b2, pt c1 c2] w fun e w' => e = .returned (.tuple #[.int .i64 0, .int .i64 1]) ∧ Below w.heap.size w w' := by
  have H := Lib.hid h
  clear h
  go_enter Try.func20, Try.ntmps20
  go_wp2_with fail
  refine (all_any _ _ _ _ [(a1, a2), (b1, b2), (c1, c2)] _ rfl (by simp [maxLen]) (by simp) (ptsAt3 _ _ _ _ _ _ _ _ _ (by simp))).mono ?_
  rw [H.out]
  rintro e w1 ⟨rfl, hb1⟩
  go_wp2
  go_returns
  exact ⟨rfl, (by (repeat' (first | (with_reducible exact Below.refl _ _) | (with_reducible assumption) | (with_reducible refine Below.alloc ?_ ?_ _) | (with_reducible refine Below.drew ?_) | (with_reducible refine below_drewN ?_ _) | (with_reducible refine Below.setCell ?_ ?_ _) | (exact Below.size (by with_reducible assumption)) | go_size)) : Below w.heap.size w _).trans (hb1.mono (by simp; omega))⟩
theorem near_ok (a1 a2 b1 b2 c1 c2 : Int) (w : World) (ha : okP (a1, a2) = true) (hb : okP (b1, b2) = true) (hc : okP (c1, c2) = true) :
    Calls Try.prog 20 #[pt a1 a2, pt b1 b2, pt c1 c2] w fun e w' => e = .returned (.tuple #[.int .i64 (cmpZ (sqZ (a1, a2) (b1, b2)) (sqZ (a1, a2) (c1, c2))), .int .i64 0]) ∧ Below w.heap.size w w' := by
  have H := Lib.hid (show [(a1, a2), (b1, b2), (c1, c2)].all okP = true by simp [ha, hb, hc])
  have H1 := Lib.hid (fun W => square_ok a1 a2 b1 b2 W ha hb)
  have H2 := Lib.hid (fun W => square_ok a1 a2 c1 c2 W ha hc)
  clear ha hb hc
  go_enter Try.func20, Try.ntmps20
  go_wp2_with fail
  refine (all_any _ _ _ _ [(a1, a2), (b1, b2), (c1, c2)] _ rfl (by simp [maxLen]) (by simp) (ptsAt3 _ _ _ _ _ _ _ _ _ (by simp))).mono ?_
  rw [H.out]
  rintro e w1 ⟨rfl, hb1⟩
  have hF1 := ((Three.start w 23 a1 a2 b1 b2 c1 c2).alloc _).below hb1
  have hB1 := (show Below w.heap.size w _ from by (repeat' (first | (with_reducible exact Below.refl _ _) | (with_reducible assumption) | (with_reducible refine Below.alloc ?_ ?_ _) | (with_reducible refine Below.drew ?_) | (with_reducible refine below_drewN ?_ _) | (with_reducible refine Below.setCell ?_ ?_ _) | (exact Below.size (by with_reducible assumption)) | go_size))).trans (hb1.mono (by simp; omega))
  obtain ⟨hz1, e1, e2, e3, e4, e5, e6⟩ := id hF1; obtain ⟨l1, l2, l3⟩ := hF1.lts
  clear hb1
  go_wp2_with fail
  have hF1 := hF1.drew
  have hB1 := hB1.drew
  go_region_held3 (fun w' => w'.cell? ⟨w.heap.size, 0, none⟩ = some (.int .i64 a1) ∧ w'.cell? ⟨w.heap.size, 1, none⟩ = some (.int .i64 a2) ∧ w'.cell? ⟨w.heap.size + 1, 0, none⟩ = some (.int .i64 b1) ∧ w'.cell? ⟨w.heap.size + 1, 1, none⟩ = some (.int .i64 b2) ∧ w'.cell? ⟨w.heap.size + 1 + 1, 0, none⟩ = some (.int .i64 c1) ∧ w'.cell? ⟨w.heap.size + 1 + 1, 1, none⟩ = some (.int .i64 c2)) (exact hF1.2)
    (first
     | (go_at_call 46; (with_reducible refine (H1.out _).mono ?_); rintro e wn ⟨rfl, hbn⟩; have hF1 := hF1.below hbn; have hB1 := hB1.trans (hbn.mono hB1.size); clear hbn)
     | (go_at_call 46; (with_reducible refine (H2.out _).mono ?_); rintro e wn ⟨rfl, hbn⟩; have hF1 := hF1.below hbn; have hB1 := hB1.trans (hbn.mono hB1.size); clear hbn)
     | (go_at_call 45; (with_reducible refine (compare_any _ _ _).mono ?_); rintro e wn ⟨rfl, rfl⟩))
  go_wp2
  go_returns
  exact ⟨rfl, by assumption⟩

def insideZ (p a b c : Int × Int) : Int :=
  min (min (min 1 (cmpZ (turnZ a b c) 0 * cmpZ (turnZ a b p) 0)) (cmpZ (turnZ a b c) 0 * cmpZ (turnZ b c p) 0)) (cmpZ (turnZ a b c) 0 * cmpZ (turnZ c a p) 0)

theorem inside_arg (a1 a2 b1 b2 c1 c2 d1 d2 : Int) (w : World) (h : [(a1, a2), (b1, b2), (c1, c2), (d1, d2)].all okP = false) :
    Calls Try.prog 19 #[pt a1 a2, pt b1 b2, pt c1 c2, pt d1 d2] w fun e w' => e = .returned (.tuple #[.int .i64 0, .int .i64 1]) ∧ Below w.heap.size w w' := by
  have H := Lib.hid h
  clear h
  go_enter Try.func19, Try.ntmps19
  go_wp2_with fail
  refine (all_any _ _ _ _ [(a1, a2), (b1, b2), (c1, c2), (d1, d2)] _ rfl (by simp [maxLen]) (by simp) (ptsAt4 _ _ _ _ _ _ _ _ _ _ _ (by simp))).mono ?_
  rw [H.out]
  rintro e w1 ⟨rfl, hb1⟩
  go_wp2
  go_returns
  exact ⟨rfl, (by (repeat' (first | (with_reducible exact Below.refl _ _) | (with_reducible assumption) | (with_reducible refine Below.alloc ?_ ?_ _) | (with_reducible refine Below.drew ?_) | (with_reducible refine below_drewN ?_ _) | (with_reducible refine Below.setCell ?_ ?_ _) | (exact Below.size (by with_reducible assumption)) | go_size)) : Below w.heap.size w _).trans (hb1.mono (by simp; omega))⟩
theorem inside_shape (a1 a2 b1 b2 c1 c2 d1 d2 : Int) (w : World) (ha : okP (a1, a2) = true) (hb : okP (b1, b2) = true) (hc : okP (c1, c2) = true) (hd : okP (d1, d2) = true) (ht : turnZ (b1, b2) (c1, c2) (d1, d2) = 0) :
    Calls Try.prog 19 #[pt a1 a2, pt b1 b2, pt c1 c2, pt d1 d2] w fun e w' => e = .returned (.tuple #[.int .i64 0, .int .i64 25]) ∧ Below w.heap.size w w' := by
  have H := Lib.hid (show [(a1, a2), (b1, b2), (c1, c2), (d1, d2)].all okP = true by simp [ha, hb, hc, hd])
  have HT := fun W => turn_ok b1 b2 c1 c2 d1 d2 W hb hc hd
  rw [ht] at HT
  have HT := Lib.hid HT
  have HC := Lib.hid (fun W => compare_any 0 0 W)
  clear ha hb hc hd ht
  go_enter Try.func19, Try.ntmps19
  go_wp2_with fail
  refine (all_any _ _ _ _ [(a1, a2), (b1, b2), (c1, c2), (d1, d2)] _ rfl (by simp [maxLen]) (by simp) (ptsAt4 _ _ _ _ _ _ _ _ _ _ _ (by simp))).mono ?_
  rw [H.out]
  rintro e w1 ⟨rfl, hb1⟩
  have hF1 := ((Four.start w 23 a1 a2 b1 b2 c1 c2 d1 d2).alloc _).below hb1
  have hB1 := (show Below w.heap.size w _ from by (repeat' (first | (with_reducible exact Below.refl _ _) | (with_reducible assumption) | (with_reducible refine Below.alloc ?_ ?_ _) | (with_reducible refine Below.drew ?_) | (with_reducible refine below_drewN ?_ _) | (with_reducible refine Below.setCell ?_ ?_ _) | (exact Below.size (by with_reducible assumption)) | go_size))).trans (hb1.mono (by simp; omega))
  obtain ⟨hz1, e1, e2, e3, e4, e5, e6, e7, e8⟩ := id hF1; obtain ⟨l1, l2, l3, l4⟩ := hF1.lts
  clear hb1
  go_wp2_with fail
  refine (HT.out _).mono ?_
  rintro e wn ⟨rfl, hbn⟩
  have hF1 := hF1.below hbn; have hB1 := hB1.trans (hbn.mono hB1.size); clear hbn
  go_wp2_with fail
  refine (HC.out _).mono ?_
  rintro e wx ⟨rfl, rfl⟩
  have e0 : cmpZ 0 0 = 0 := by decide
  rw [e0]
  go_wp2
  go_returns
  exact ⟨rfl, by assumption⟩

set_option maxHeartbeats 1000000 in
theorem inside_ok (a1 a2 b1 b2 c1 c2 d1 d2 : Int) (w : World) (ha : okP (a1, a2) = true) (hb : okP (b1, b2) = true) (hc : okP (c1, c2) = true) (hd : okP (d1, d2) = true) (ht : turnZ (b1, b2) (c1, c2) (d1, d2) ≠ 0) :
    Calls Try.prog 19 #[pt a1 a2, pt b1 b2, pt c1 c2, pt d1 d2] w fun e w' => e = .returned (.tuple #[.int .i64 (insideZ (a1, a2) (b1, b2) (c1, c2) (d1, d2)), .int .i64 0]) ∧ Below w.heap.size w w' := by
  have H := Lib.hid (show [(a1, a2), (b1, b2), (c1, c2), (d1, d2)].all okP = true by simp [ha, hb, hc, hd])
  have T0 := fun W => turn_ok b1 b2 c1 c2 d1 d2 W hb hc hd
  have T1 := fun W => turn_ok b1 b2 c1 c2 a1 a2 W hb hc ha
  have T2 := fun W => turn_ok c1 c2 d1 d2 a1 a2 W hc hd ha
  have T3 := fun W => turn_ok d1 d2 b1 b2 a1 a2 W hd hb ha
  have HV : Hid (insideZ (a1, a2) (b1, b2) (c1, c2) (d1, d2) = min (min (min 1 (cmpZ (turnZ (b1, b2) (c1, c2) (d1, d2)) 0 * cmpZ (turnZ (b1, b2) (c1, c2) (a1, a2)) 0)) (cmpZ (turnZ (b1, b2) (c1, c2) (d1, d2)) 0 * cmpZ (turnZ (c1, c2) (d1, d2) (a1, a2)) 0)) (cmpZ (turnZ (b1, b2) (c1, c2) (d1, d2)) 0 * cmpZ (turnZ (d1, d2) (b1, b2) (a1, a2)) 0)) := Lib.hid rfl
  generalize insideZ (a1, a2) (b1, b2) (c1, c2) (d1, d2) = V at *
  generalize turnZ (b1, b2) (c1, c2) (d1, d2) = t0 at *
  generalize turnZ (b1, b2) (c1, c2) (a1, a2) = t1 at *
  generalize turnZ (c1, c2) (d1, d2) (a1, a2) = t2 at *
  generalize turnZ (d1, d2) (b1, b2) (a1, a2) = t3 at *
  have C0 := fun W => compare_any t0 0 W
  have C1 := fun W => compare_any t1 0 W
  have C2 := fun W => compare_any t2 0 W
  have C3 := fun W => compare_any t3 0 W
  have n0 : cmpZ t0 0 ≠ 0 := by rcases cmpZ_cases t0 0 with h | h | h <;> omega
  have m1 := mul_bd _ _ 1 1 (cmpZ_bd t0 0) (cmpZ_bd t1 0)
  have m2 := mul_bd _ _ 1 1 (cmpZ_bd t0 0) (cmpZ_bd t2 0)
  have m3 := mul_bd _ _ 1 1 (cmpZ_bd t0 0) (cmpZ_bd t3 0)
  generalize cmpZ t0 0 = s0 at *
  generalize cmpZ t1 0 = s1 at *
  generalize cmpZ t2 0 = s2 at *
  generalize cmpZ t3 0 = s3 at *
  obtain ⟨m11, m12⟩ : -1 ≤ s0 * s1 ∧ s0 * s1 ≤ 1 := by omega
  obtain ⟨m21, m22⟩ : -1 ≤ s0 * s2 ∧ s0 * s2 ≤ 1 := by omega
  obtain ⟨m31, m32⟩ : -1 ≤ s0 * s3 ∧ s0 * s3 ≤ 1 := by omega
  have n1 : (s0 == 0) = false := by simpa using n0
  have T0 := Lib.hid T0
  have T1 := Lib.hid T1
  have T2 := Lib.hid T2
  have T3 := Lib.hid T3
  have C0 := Lib.hid C0
  have C1 := Lib.hid C1
  have C2 := Lib.hid C2
  have C3 := Lib.hid C3
  clear ha hb hc hd ht n0 m1 m2 m3
  have i0 : ∀ W, (Instr.index 66 (.agg #[.int .i64 b1, .int .i64 b2, .int .i64 c1, .int .i64 c2, .int .i64 c1, .int .i64 c2, .int .i64 d1, .int .i64 d2, .int .i64 d1, .int .i64 d2, .int .i64 b1, .int .i64 b2]) (.int .i64 0)).run Try.prog W = .ok (.agg #[.int .i64 b1, .int .i64 b2, .int .i64 c1, .int .i64 c2]) W := fun _ => by kernel_rfl
  have i1 : ∀ W, (Instr.index 66 (.agg #[.int .i64 b1, .int .i64 b2, .int .i64 c1, .int .i64 c2, .int .i64 c1, .int .i64 c2, .int .i64 d1, .int .i64 d2, .int .i64 d1, .int .i64 d2, .int .i64 b1, .int .i64 b2]) (.int .i64 1)).run Try.prog W = .ok (.agg #[.int .i64 c1, .int .i64 c2, .int .i64 d1, .int .i64 d2]) W := fun _ => by kernel_rfl
  have i2 : ∀ W, (Instr.index 66 (.agg #[.int .i64 b1, .int .i64 b2, .int .i64 c1, .int .i64 c2, .int .i64 c1, .int .i64 c2, .int .i64 d1, .int .i64 d2, .int .i64 d1, .int .i64 d2, .int .i64 b1, .int .i64 b2]) (.int .i64 2)).run Try.prog W = .ok (.agg #[.int .i64 d1, .int .i64 d2, .int .i64 b1, .int .i64 b2]) W := fun _ => by kernel_rfl
  go_enter Try.func19, Try.ntmps19
  go_wp2_with fail
  refine (all_any _ _ _ _ [(a1, a2), (b1, b2), (c1, c2), (d1, d2)] _ rfl (by simp [maxLen]) (by simp) (ptsAt4 _ _ _ _ _ _ _ _ _ _ _ (by simp))).mono ?_
  rw [H.out]
  rintro e w1 ⟨rfl, hb1⟩
  have hF1 := ((Four.start w 23 a1 a2 b1 b2 c1 c2 d1 d2).alloc _).below hb1
  have hB1 := (show Below w.heap.size w _ from by (repeat' (first | (with_reducible exact Below.refl _ _) | (with_reducible assumption) | (with_reducible refine Below.alloc ?_ ?_ _) | (with_reducible refine Below.drew ?_) | (with_reducible refine below_drewN ?_ _) | (with_reducible refine Below.setCell ?_ ?_ _) | (exact Below.size (by with_reducible assumption)) | go_size))).trans (hb1.mono (by simp; omega))
  obtain ⟨hz1, e1, e2, e3, e4, e5, e6, e7, e8⟩ := id hF1; obtain ⟨l1, l2, l3, l4⟩ := hF1.lts
  clear hb1
  go_wp2_with fail
  refine (T0.out _).mono ?_
  rintro e wn ⟨rfl, hbn⟩
  have hF1 := hF1.below hbn; have hB1 := hB1.trans (hbn.mono hB1.size); clear hbn
  obtain ⟨hz1, e1, e2, e3, e4, e5, e6, e7, e8⟩ := id hF1; obtain ⟨l1, l2, l3, l4⟩ := hF1.lts
  go_wp2_with fail
  refine (C0.out _).mono ?_
  rintro e wx ⟨rfl, rfl⟩
  go_wp2_with fail
  refine wp_loop_rounds 4 ?_
  all_goals
    rw [rounds_succ]
    go_wp2_with fail
    refine (T1.out _).mono ?_
    rintro e wn ⟨rfl, hbn⟩
    have hF1 := (hF1.alloc _).below hbn
    have hB1 := (show Below w.heap.size w _ from by (repeat' (first | (with_reducible exact Below.refl _ _) | (with_reducible assumption) | (with_reducible refine Below.alloc ?_ ?_ _) | (with_reducible refine Below.drew ?_) | (with_reducible refine below_drewN ?_ _) | (with_reducible refine Below.setCell ?_ ?_ _) | (exact Below.size (by with_reducible assumption)) | go_size))).trans (hbn.mono (Below.size (show Below w.heap.size w _ from by (repeat' (first | (with_reducible exact Below.refl _ _) | (with_reducible assumption) | (with_reducible refine Below.alloc ?_ ?_ _) | (with_reducible refine Below.drew ?_) | (with_reducible refine below_drewN ?_ _) | (with_reducible refine Below.setCell ?_ ?_ _) | (exact Below.size (by with_reducible assumption)) | go_size)))))
    clear hbn
    obtain ⟨hz1, e1, e2, e3, e4, e5, e6, e7, e8⟩ := id hF1; obtain ⟨l1, l2, l3, l4⟩ := hF1.lts
    go_wp2_with fail
    refine (C1.out _).mono ?_
    rintro e wx ⟨rfl, rfl⟩
    go_wp2_with fail
  all_goals
    rw [rounds_succ]
    go_wp2_with fail
    refine (T2.out _).mono ?_
    rintro e wn ⟨rfl, hbn⟩
    have hF1 := (hF1.alloc _).below hbn
    have hB1 := (show Below w.heap.size w _ from by (repeat' (first | (with_reducible exact Below.refl _ _) | (with_reducible assumption) | (with_reducible refine Below.alloc ?_ ?_ _) | (with_reducible refine Below.drew ?_) | (with_reducible refine below_drewN ?_ _) | (with_reducible refine Below.setCell ?_ ?_ _) | (exact Below.size (by with_reducible assumption)) | go_size))).trans (hbn.mono (Below.size (show Below w.heap.size w _ from by (repeat' (first | (with_reducible exact Below.refl _ _) | (with_reducible assumption) | (with_reducible refine Below.alloc ?_ ?_ _) | (with_reducible refine Below.drew ?_) | (with_reducible refine below_drewN ?_ _) | (with_reducible refine Below.setCell ?_ ?_ _) | (exact Below.size (by with_reducible assumption)) | go_size)))))
    clear hbn
    obtain ⟨hz1, e1, e2, e3, e4, e5, e6, e7, e8⟩ := id hF1; obtain ⟨l1, l2, l3, l4⟩ := hF1.lts
    go_wp2_with fail
    refine (C2.out _).mono ?_
    rintro e wx ⟨rfl, rfl⟩
    go_wp2_with fail
  all_goals
    rw [rounds_succ]
    go_wp2_with fail
    refine (T3.out _).mono ?_
    rintro e wn ⟨rfl, hbn⟩
    have hF1 := (hF1.alloc _).below hbn
    have hB1 := (show Below w.heap.size w _ from by (repeat' (first | (with_reducible exact Below.refl _ _) | (with_reducible assumption) | (with_reducible refine Below.alloc ?_ ?_ _) | (with_reducible refine Below.drew ?_) | (with_reducible refine below_drewN ?_ _) | (with_reducible refine Below.setCell ?_ ?_ _) | (exact Below.size (by with_reducible assumption)) | go_size))).trans (hbn.mono (Below.size (show Below w.heap.size w _ from by (repeat' (first | (with_reducible exact Below.refl _ _) | (with_reducible assumption) | (with_reducible refine Below.alloc ?_ ?_ _) | (with_reducible refine Below.drew ?_) | (with_reducible refine below_drewN ?_ _) | (with_reducible refine Below.setCell ?_ ?_ _) | (exact Below.size (by with_reducible assumption)) | go_size)))))
    clear hbn
    obtain ⟨hz1, e1, e2, e3, e4, e5, e6, e7, e8⟩ := id hF1; obtain ⟨l1, l2, l3, l4⟩ := hF1.lts
    go_wp2_with fail
    refine (C3.out _).mono ?_
    rintro e wx ⟨rfl, rfl⟩
    go_wp2_with fail
  all_goals
    rw [rounds_succ]
    go_wp2
    go_returns
    exact ⟨ret_ints (by rw [HV.out]; simp only [Int.min_def]; repeat' split; all_goals omega) rfl, by assumption⟩
end Go.Proofs.Ytcabnkclelgoeaa
