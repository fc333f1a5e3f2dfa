/- Walks of the reference's Distance and Inside; the law PlanePoints. -/
import Derived.Test.YtcabnkclelgoeaaY
import Derived.Test.YtcabnkclelgoeaaU
import Derived.Test.YtcabnkclelgoeaaQ
import Derived.Test.YtcabnkclelgoeaaG
namespace Go.Proofs.Ytcabnkclelgoeaa
set_option linter.unusedSimpArgs false
set_option linter.unusedVariables false
attribute [local go_sem ↓] Go.wp_at_zero Go.wp_at_succ
open Go.ChangeShapes Go.WideShapes Go.ChangeAt Go.RowKit

theorem rdist_ok (a1 a2 b1 b2 : Int) (r : Nat) (w : World) (ha : okP (a1, a2) = true) (hb : okP (b1, b2) = true) (h1 : r * r ≤ (sqZ (a1, a2) (b1, b2)).toNat) (h2 : (sqZ (a1, a2) (b1, b2)).toNat < (r + 1) * (r + 1)) :
    Calls Try.prog 23 #[pt a1 a2, pt b1 b2] w fun e w' => e = .returned (.agg #[.int .i64 r, .int .i64 (if (r : Int) * r < sqZ (a1, a2) (b1, b2) then (r : Int) + 1 else r)]) ∧ Below w.heap.size w w' := by
  have HS := Lib.hid (fun W => rsquare_ok a1 a2 b1 b2 W ha hb)
  obtain ⟨n, hn⟩ := Int.eq_ofNat_of_zero_le (sqZ_bd ha hb).1
  have hn2 : n ≤ 2251799813685248 := by have := (sqZ_bd ha hb).2; omega
  rw [hn] at HS h1 h2 ⊢
  simp only [Int.toNat_natCast] at h1 h2
  have hr0 : r ≤ 2251799813685248 := by
    have : r ≤ r * r := Nat.le_mul_self r
    omega
  have hrr : ((r * r : Nat) : Int) = (r : Int) * r := Int.natCast_mul _ _
  have hr1 : (0 : Int) ≤ (r : Int) * r := by rw [← hrr]; omega
  have hr3 : (r : Int) * r ≤ 2251799813685248 := by rw [← hrr]; omega
  have HR := Lib.hid (fun W => rroot_any n r W (by omega) h1 h2)
  clear ha hb h1 h2 hn hrr
  go_enter Try.func23, Try.ntmps23
  go_wp2_with fail
  refine (HS.out _).mono ?_
  rintro e wn ⟨rfl, hbn⟩
  have hO := (Out.start _ 44 0 0 (w.heap.size + 1 + 1) (by simp)).below hbn
  have hB1 := (show Below w.heap.size w _ from by (repeat' (first | (with_reducible exact Below.refl _ _) | (with_reducible assumption) | (with_reducible refine Below.alloc ?_ ?_ _) | (with_reducible refine Below.drew ?_) | (with_reducible refine below_drewN ?_ _) | (with_reducible refine Below.setCell ?_ ?_ _) | (exact Below.size (by with_reducible assumption)) | go_size))).trans (hbn.mono (by simp; omega))
  clear hbn
  go_wp2_with fail
  refine (HR.out _).mono ?_
  rintro e wn ⟨rfl, hbn⟩
  have hO := hO.below hbn
  have hB1 := hB1.trans (hbn.mono hB1.size)
  clear hbn
  obtain ⟨hy1, o1, o2, o3, o4⟩ := id hO
  by_cases hc : (r : Int) * r < n
  · go_wp2
    exact bodyPost_ret (v := .agg #[.int .i64 r, .int .i64 ((r : Int) + 1)]) (by simp [results, Try.results23, go_sem, o1, o2, o3, o4, hy1]) rfl ⟨by first | rfl | rw [if_pos (by omega)], by (repeat' (first | (with_reducible exact Below.refl _ _) | (with_reducible assumption) | (with_reducible refine Below.alloc ?_ ?_ _) | (with_reducible refine Below.drew ?_) | (with_reducible refine below_drewN ?_ _) | (with_reducible refine Below.setCell ?_ ?_ _) | (exact Below.size (by with_reducible assumption)) | go_size))⟩
  · go_wp2
    exact bodyPost_ret (v := .agg #[.int .i64 r, .int .i64 r]) (by simp [results, Try.results23, go_sem, o1, o2, o3, o4, hy1]) rfl ⟨by first | rfl | rw [if_neg (by omega)], by (repeat' (first | (with_reducible exact Below.refl _ _) | (with_reducible assumption) | (with_reducible refine Below.alloc ?_ ?_ _) | (with_reducible refine Below.drew ?_) | (with_reducible refine below_drewN ?_ _) | (with_reducible refine Below.setCell ?_ ?_ _) | (exact Below.size (by with_reducible assumption)) | go_size))⟩

set_option maxHeartbeats 1000000 in
theorem rinside_ok (a1 a2 b1 b2 c1 c2 d1 d2 : Int) (w : World) (ha : okP (a1, a2) = true) (hb : okP (b1, b2) = true) (hc : okP (c1, c2) = true) (hd : okP (d1, d2) = true) :
    Calls Try.prog 27 #[pt a1 a2, pt b1 b2, pt c1 c2, pt d1 d2] w fun e w' => e = .returned (.int .i64 (insideZ (a1, a2) (b1, b2) (c1, c2) (d1, d2))) ∧ Below w.heap.size w w' := by
  have T0 := fun W => rturn_ok b1 b2 c1 c2 d1 d2 W hb hc hd
  have T1 := fun W => rturn_ok b1 b2 c1 c2 a1 a2 W hb hc ha
  have T2 := fun W => rturn_ok c1 c2 d1 d2 a1 a2 W hc hd ha
  have T3 := fun W => rturn_ok d1 d2 b1 b2 a1 a2 W hd hb ha
  have HV : Hid (insideZ (a1, a2) (b1, b2) (c1, c2) (d1, d2) = min (min (min 1 (cmpZ (turnZ (b1, b2) (c1, c2) (d1, d2)) 0 * cmpZ (turnZ (b1, b2) (c1, c2) (a1, a2)) 0)) (cmpZ (turnZ (b1, b2) (c1, c2) (d1, d2)) 0 * cmpZ (turnZ (c1, c2) (d1, d2) (a1, a2)) 0)) (cmpZ (turnZ (b1, b2) (c1, c2) (d1, d2)) 0 * cmpZ (turnZ (d1, d2) (b1, b2) (a1, a2)) 0)) := Lib.hid rfl
  generalize insideZ (a1, a2) (b1, b2) (c1, c2) (d1, d2) = V at *
  generalize turnZ (b1, b2) (c1, c2) (d1, d2) = t0 at *
  generalize turnZ (b1, b2) (c1, c2) (a1, a2) = t1 at *
  generalize turnZ (c1, c2) (d1, d2) (a1, a2) = t2 at *
  generalize turnZ (d1, d2) (b1, b2) (a1, a2) = t3 at *
  have C0 := fun W => sign_any t0 W
  have C1 := fun W => sign_any t1 W
  have C2 := fun W => sign_any t2 W
  have C3 := fun W => sign_any t3 W
  have m1 := mul_bd _ _ 1 1 (cmpZ_bd t0 0) (cmpZ_bd t1 0)
  have m2 := mul_bd _ _ 1 1 (cmpZ_bd t0 0) (cmpZ_bd t2 0)
  have m3 := mul_bd _ _ 1 1 (cmpZ_bd t0 0) (cmpZ_bd t3 0)
  generalize cmpZ t0 0 = s0 at *
  generalize cmpZ t1 0 = s1 at *
  generalize cmpZ t2 0 = s2 at *
  generalize cmpZ t3 0 = s3 at *
  obtain ⟨m11, m12⟩ : -1 ≤ s0 * s1 ∧ s0 * s1 ≤ 1 := by omega
  obtain ⟨m21, m22⟩ : -1 ≤ s0 * s2 ∧ s0 * s2 ≤ 1 := by omega
  obtain ⟨m31, m32⟩ : -1 ≤ s0 * s3 ∧ s0 * s3 ≤ 1 := by omega
  have T0 := Lib.hid T0
  have T1 := Lib.hid T1
  have T2 := Lib.hid T2
  have T3 := Lib.hid T3
  have C0 := Lib.hid C0
  have C1 := Lib.hid C1
  have C2 := Lib.hid C2
  have C3 := Lib.hid C3
  clear ha hb hc hd m1 m2 m3
  go_enter Try.func27, Try.ntmps27
  go_wp2_with fail
  refine (T0.out _).mono ?_
  rintro e w1 ⟨rfl, hb1⟩
  have hF1 := (Four.start w 23 a1 a2 b1 b2 c1 c2 d1 d2).below hb1
  have hB1 := (show Below w.heap.size w _ from by (repeat' (first | (with_reducible exact Below.refl _ _) | (with_reducible assumption) | (with_reducible refine Below.alloc ?_ ?_ _) | (with_reducible refine Below.drew ?_) | (with_reducible refine below_drewN ?_ _) | (with_reducible refine Below.setCell ?_ ?_ _) | (exact Below.size (by with_reducible assumption)) | go_size))).trans (hb1.mono (by simp; omega))
  obtain ⟨hz1, e1, e2, e3, e4, e5, e6, e7, e8⟩ := id hF1; obtain ⟨l1, l2, l3, l4⟩ := hF1.lts
  clear hb1
  go_wp2_with fail
  refine (C0.out _).mono ?_
  rintro e wx ⟨rfl, rfl⟩
  go_wp2_with fail
  have hF1 := hF1.drew
  have hB1 := hB1.drew
  go_region_held3 (fun w' => w'.cell? ⟨w.heap.size, 0, none⟩ = some (.int .i64 a1) ∧ w'.cell? ⟨w.heap.size, 1, none⟩ = some (.int .i64 a2) ∧ w'.cell? ⟨w.heap.size + 1, 0, none⟩ = some (.int .i64 b1) ∧ w'.cell? ⟨w.heap.size + 1, 1, none⟩ = some (.int .i64 b2) ∧ w'.cell? ⟨w.heap.size + 1 + 1, 0, none⟩ = some (.int .i64 c1) ∧ w'.cell? ⟨w.heap.size + 1 + 1, 1, none⟩ = some (.int .i64 c2) ∧ w'.cell? ⟨w.heap.size + 1 + 1 + 1, 0, none⟩ = some (.int .i64 d1) ∧ w'.cell? ⟨w.heap.size + 1 + 1 + 1, 1, none⟩ = some (.int .i64 d2)) (exact hF1.2)
    (first
     | (go_at_call 25; (with_reducible refine (T1.out _).mono ?_); rintro e wn ⟨rfl, hbn⟩; have hF1 := hF1.below hbn; have hB1 := hB1.trans (hbn.mono hB1.size); clear hbn)
     | (go_at_call 25; (with_reducible refine (T2.out _).mono ?_); rintro e wn ⟨rfl, hbn⟩; have hF1 := hF1.below hbn; have hB1 := hB1.trans (hbn.mono hB1.size); clear hbn)
     | (go_at_call 25; (with_reducible refine (T3.out _).mono ?_); rintro e wn ⟨rfl, hbn⟩; have hF1 := hF1.below hbn; have hB1 := hB1.trans (hbn.mono hB1.size); clear hbn)
     | (go_at_call 24; (with_reducible refine (C1.out _).mono ?_); rintro e wn ⟨rfl, rfl⟩)
     | (go_at_call 24; (with_reducible refine (C2.out _).mono ?_); rintro e wn ⟨rfl, rfl⟩)
     | (go_at_call 24; (with_reducible refine (C3.out _).mono ?_); rintro e wn ⟨rfl, rfl⟩))
  generalize s0 * s1 = z1 at *
  generalize s0 * s2 = z2 at *
  generalize s0 * s3 = z3 at *
  go_wp2
  all_goals (go_returns; exact ⟨ret_int (by rw [HV.out]; simp only [Int.min_def]; (try simp only [beq_iff_eq, beq_eq_false_iff_ne, ne_eq] at *); repeat' split; all_goals omega), by assumption⟩)
end Go.Proofs.Ytcabnkclelgoeaa
