/- PlaneSegments: whatever the four points are, the law returns true. Conditions: none. -/
import Derived.Test.YtcabnkclelgoeaaQ
import Derived.Lib.SmallJoins
namespace Go.Proofs.Ytcabnkclelgoeaa
set_option linter.unusedSimpArgs false
set_option linter.unusedVariables false
open Go.ChangeShapes Go.WideShapes Go.ChangeAt Go.RowKit Go.Joins

theorem run_eqfr (a1 a2 b1 b2 : Int) (W : World) :
    (binOp .eql 29 (.agg #[.int .i64 a1, .int .i64 a2]) (.agg #[.int .i64 b1, .int .i64 b2])).run Try.prog W = .ok (.bool (decide (a1 = b1 ∧ a2 = b2))) W := by
  go_simp
  by_cases h : a1 = b1 <;> by_cases k : a2 = b2 <;> simp [h, k]

theorem seg_bad (a1 a2 b1 b2 c1 c2 d1 d2 : Int) (w : World) (h : [(a1, a2), (b1, b2), (c1, c2), (d1, d2)].all okP = false) :
    Calls Try.prog 3 #[pt a1 a2, pt b1 b2, pt c1 c2, pt d1 d2] w fun e w' => e = .returned (.bool true) ∧ Below w.heap.size w w' := by
  have HC := Lib.hid (fun W => cross_arg a1 a2 b1 b2 c1 c2 d1 d2 W h)
  have HT := Lib.hid (fun W => cut_arg a1 a2 b1 b2 c1 c2 d1 d2 W h)
  have H := Lib.hid h
  clear h
  go_enter Try.func3, Try.ntmps3
  go_wp2_with fail
  refine (awake_true _).mono ?_
  rintro e wn ⟨rfl, hbn⟩
  have hF1 := (Four.start w 23 a1 a2 b1 b2 c1 c2 d1 d2).below hbn
  have hB1 := (show Below w.heap.size w _ from by (repeat' (first | (with_reducible exact Below.refl _ _) | (with_reducible assumption) | (with_reducible refine Below.alloc ?_ ?_ _) | (with_reducible refine Below.drew ?_) | (with_reducible refine below_drewN ?_ _) | (with_reducible refine Below.setCell ?_ ?_ _) | (exact Below.size (by with_reducible assumption)) | go_size))).trans (hbn.mono (by simp; omega))
  clear hbn
  obtain ⟨hz1, e1, e2, e3, e4, e5, e6, e7, e8⟩ := id hF1; obtain ⟨l1, l2, l3, l4⟩ := hF1.lts
  go_wp2_with fail
  refine (HC.out _).mono ?_
  rintro e wn ⟨rfl, hbn⟩
  have hF1 := hF1.below hbn; have hB1 := hB1.trans (hbn.mono hB1.size); clear hbn
  obtain ⟨hz1, e1, e2, e3, e4, e5, e6, e7, e8⟩ := id hF1; obtain ⟨l1, l2, l3, l4⟩ := hF1.lts
  go_wp2_with fail
  refine (HT.out _).mono ?_
  rintro e wm ⟨rfl, hbn⟩
  have hF1 := hF1.below hbn; have hB1 := hB1.trans (hbn.mono hB1.size); clear hbn
  obtain ⟨hz1, e1, e2, e3, e4, e5, e6, e7, e8⟩ := id hF1; obtain ⟨l1, l2, l3, l4⟩ := hF1.lts
  go_wp2_with fail
  refine (rall_any _ _ _ _ [(a1, a2), (b1, b2), (c1, c2), (d1, d2)] _ rfl (by simp [maxLen]) (by simp) (ptsAt4 _ _ _ _ _ _ _ _ _ _ _ (by simp))).mono ?_
  rw [H.out]
  rintro e wk ⟨rfl, hbk⟩
  have hB2 := (show Below w.heap.size w _ from by (repeat' (first | (with_reducible exact Below.refl _ _) | (with_reducible assumption) | (with_reducible refine Below.alloc ?_ ?_ _) | (with_reducible refine Below.drew ?_) | (with_reducible refine below_drewN ?_ _) | (with_reducible refine Below.setCell ?_ ?_ _) | (exact Below.size (by with_reducible assumption)) | go_size))).trans (hbk.mono (Below.size (show Below w.heap.size w _ from by (repeat' (first | (with_reducible exact Below.refl _ _) | (with_reducible assumption) | (with_reducible refine Below.alloc ?_ ?_ _) | (with_reducible refine Below.drew ?_) | (with_reducible refine below_drewN ?_ _) | (with_reducible refine Below.setCell ?_ ?_ _) | (exact Below.size (by with_reducible assumption)) | go_size)))))
  have hO := ((Out.start _ 29 0 0 wm.heap.size rfl).alloc _).below hbk
  obtain ⟨hy1, o1, o2, o3, o4⟩ := id hO
  go_wp2
  go_returns
  exact ⟨rfl, by assumption⟩

theorem seg_shape (a1 a2 b1 b2 c1 c2 d1 d2 : Int) (w : World) (h : [(a1, a2), (b1, b2), (c1, c2), (d1, d2)].all okP = true) (hs : (a1 = b1 ∧ a2 = b2) ∨ (c1 = d1 ∧ c2 = d2)) :
    Calls Try.prog 3 #[pt a1 a2, pt b1 b2, pt c1 c2, pt d1 d2] w fun e w' => e = .returned (.bool true) ∧ Below w.heap.size w w' := by
  have HC := Lib.hid (fun W => cross_shape a1 a2 b1 b2 c1 c2 d1 d2 W h hs)
  have HT := Lib.hid (fun W => cut_shape a1 a2 b1 b2 c1 c2 d1 d2 W h hs)
  have H := Lib.hid h
  clear h
  go_enter Try.func3, Try.ntmps3
  go_wp2_with fail
  refine (awake_true _).mono ?_
  rintro e wn ⟨rfl, hbn⟩
  have hF1 := (Four.start w 23 a1 a2 b1 b2 c1 c2 d1 d2).below hbn
  have hB1 := (show Below w.heap.size w _ from by (repeat' (first | (with_reducible exact Below.refl _ _) | (with_reducible assumption) | (with_reducible refine Below.alloc ?_ ?_ _) | (with_reducible refine Below.drew ?_) | (with_reducible refine below_drewN ?_ _) | (with_reducible refine Below.setCell ?_ ?_ _) | (exact Below.size (by with_reducible assumption)) | go_size))).trans (hbn.mono (by simp; omega))
  clear hbn
  obtain ⟨hz1, e1, e2, e3, e4, e5, e6, e7, e8⟩ := id hF1; obtain ⟨l1, l2, l3, l4⟩ := hF1.lts
  go_wp2_with fail
  refine (HC.out _).mono ?_
  rintro e wn ⟨rfl, hbn⟩
  have hF1 := hF1.below hbn; have hB1 := hB1.trans (hbn.mono hB1.size); clear hbn
  obtain ⟨hz1, e1, e2, e3, e4, e5, e6, e7, e8⟩ := id hF1; obtain ⟨l1, l2, l3, l4⟩ := hF1.lts
  go_wp2_with fail
  refine (HT.out _).mono ?_
  rintro e wm ⟨rfl, hbn⟩
  have hF1 := hF1.below hbn; have hB1 := hB1.trans (hbn.mono hB1.size); clear hbn
  obtain ⟨hz1, e1, e2, e3, e4, e5, e6, e7, e8⟩ := id hF1; obtain ⟨l1, l2, l3, l4⟩ := hF1.lts
  go_wp2_with fail
  refine (rall_any _ _ _ _ [(a1, a2), (b1, b2), (c1, c2), (d1, d2)] _ rfl (by simp [maxLen]) (by simp) (ptsAt4 _ _ _ _ _ _ _ _ _ _ _ (by simp))).mono ?_
  rw [H.out]
  rintro e wk ⟨rfl, hbk⟩
  have hB2 := (show Below w.heap.size w _ from by (repeat' (first | (with_reducible exact Below.refl _ _) | (with_reducible assumption) | (with_reducible refine Below.alloc ?_ ?_ _) | (with_reducible refine Below.drew ?_) | (with_reducible refine below_drewN ?_ _) | (with_reducible refine Below.setCell ?_ ?_ _) | (exact Below.size (by with_reducible assumption)) | go_size))).trans (hbk.mono (Below.size (show Below w.heap.size w _ from by (repeat' (first | (with_reducible exact Below.refl _ _) | (with_reducible assumption) | (with_reducible refine Below.alloc ?_ ?_ _) | (with_reducible refine Below.drew ?_) | (with_reducible refine below_drewN ?_ _) | (with_reducible refine Below.setCell ?_ ?_ _) | (exact Below.size (by with_reducible assumption)) | go_size)))))
  have hF1 := ((hF1.alloc _).alloc _).below hbk
  have hO := ((Out.start _ 29 0 0 wm.heap.size rfl).alloc _).below hbk
  obtain ⟨hy1, o1, o2, o3, o4⟩ := id hO
  obtain ⟨hz1, e1, e2, e3, e4, e5, e6, e7, e8⟩ := id hF1; obtain ⟨l1, l2, l3, l4⟩ := hF1.lts
  go_wp2
  all_goals (go_returns; exact ⟨rfl, by assumption⟩)

set_option maxHeartbeats 400000 in
theorem seg_ok (a1 a2 b1 b2 c1 c2 d1 d2 : Int) (w : World) (ha : okP (a1, a2) = true) (hb : okP (b1, b2) = true) (hc : okP (c1, c2) = true) (hd : okP (d1, d2) = true) (hab : ¬ (a1 = b1 ∧ a2 = b2)) (hcd : ¬ (c1 = d1 ∧ c2 = d2)) :
    Calls Try.prog 3 #[pt a1 a2, pt b1 b2, pt c1 c2, pt d1 d2] w fun e w' => e = .returned (.bool true) ∧ Below w.heap.size w w' := by
  have HC := fun W => cross_ok a1 a2 b1 b2 c1 c2 d1 d2 W ha hb hc hd hab hcd
  have HT := fun W => cut_ok a1 a2 b1 b2 c1 c2 d1 d2 W ha hb hc hd hab hcd
  have RC := fun W => rcross_ok a1 a2 b1 b2 c1 c2 d1 d2 W ha hb hc hd
  have RT := fun W => rcut_ok a1 a2 b1 b2 c1 c2 d1 d2 W ha hb hc hd
  rw [← cross_same] at RC
  generalize cutR (turnZ (c1, c2) (d1, d2) (a1, a2)) (turnZ (c1, c2) (d1, d2) (a1, a2) - turnZ (c1, c2) (d1, d2) (b1, b2)) = r at HT RT
  generalize crossZ (a1, a2) (b1, b2) (c1, c2) (d1, d2) = x at HC RC
  have HC := Lib.hid HC
  have HT := Lib.hid HT
  have RC := Lib.hid RC
  have RT := Lib.hid RT
  obtain ⟨⟨r1, r2⟩, r3⟩ := r
  have H := Lib.hid (show [(a1, a2), (b1, b2), (c1, c2), (d1, d2)].all okP = true by simp [ha, hb, hc, hd])
  have h1 : ∀ W, (binOp .eql 23 (.agg #[.int .i64 a1, .int .i64 a2]) (.agg #[.int .i64 b1, .int .i64 b2])).run Try.prog W = .ok (.bool false) W := fun W => by rw [run_eqpt]; simp only [hab]; rfl
  have h2 : ∀ W, (binOp .eql 23 (.agg #[.int .i64 c1, .int .i64 c2]) (.agg #[.int .i64 d1, .int .i64 d2])).run Try.prog W = .ok (.bool false) W := fun W => by rw [run_eqpt]; simp only [hcd]; rfl
  have h3 : ∀ W, (binOp .eql 29 (.agg #[.int .i64 r1, .int .i64 r2]) (.agg #[.int .i64 r1, .int .i64 r2])).run Try.prog W = .ok (.bool true) W := fun W => by rw [run_eqfr]; simp
  clear hab hcd ha hb hc hd
  go_enter Try.func3, Try.ntmps3
  go_wp2_with fail
  refine (awake_true _).mono ?_
  rintro e wn ⟨rfl, hbn⟩
  have hF1 := (Four.start w 23 a1 a2 b1 b2 c1 c2 d1 d2).below hbn
  have hB1 := (show Below w.heap.size w _ from by (repeat' (first | (with_reducible exact Below.refl _ _) | (with_reducible assumption) | (with_reducible refine Below.alloc ?_ ?_ _) | (with_reducible refine Below.drew ?_) | (with_reducible refine below_drewN ?_ _) | (with_reducible refine Below.setCell ?_ ?_ _) | (exact Below.size (by with_reducible assumption)) | go_size))).trans (hbn.mono (by simp; omega))
  clear hbn
  obtain ⟨hz1, e1, e2, e3, e4, e5, e6, e7, e8⟩ := id hF1; obtain ⟨l1, l2, l3, l4⟩ := hF1.lts
  go_wp2_with fail
  refine (HC.out _).mono ?_
  rintro e wn ⟨rfl, hbn⟩
  have hF1 := hF1.below hbn; have hB1 := hB1.trans (hbn.mono hB1.size); clear hbn
  obtain ⟨hz1, e1, e2, e3, e4, e5, e6, e7, e8⟩ := id hF1; obtain ⟨l1, l2, l3, l4⟩ := hF1.lts
  go_wp2_with fail
  refine (HT.out _).mono ?_
  rintro e wm ⟨rfl, hbn⟩
  have hF1 := hF1.below hbn; have hB1 := hB1.trans (hbn.mono hB1.size); clear hbn
  obtain ⟨hz1, e1, e2, e3, e4, e5, e6, e7, e8⟩ := id hF1; obtain ⟨l1, l2, l3, l4⟩ := hF1.lts
  go_wp2_with fail
  refine (rall_any _ _ _ _ [(a1, a2), (b1, b2), (c1, c2), (d1, d2)] _ rfl (by simp [maxLen]) (by simp) (ptsAt4 _ _ _ _ _ _ _ _ _ _ _ (by simp))).mono ?_
  rw [H.out]
  rintro e wk ⟨rfl, hbk⟩
  have hB2 := (show Below w.heap.size w _ from by (repeat' (first | (with_reducible exact Below.refl _ _) | (with_reducible assumption) | (with_reducible refine Below.alloc ?_ ?_ _) | (with_reducible refine Below.drew ?_) | (with_reducible refine below_drewN ?_ _) | (with_reducible refine Below.setCell ?_ ?_ _) | (exact Below.size (by with_reducible assumption)) | go_size))).trans (hbk.mono (Below.size (show Below w.heap.size w _ from by (repeat' (first | (with_reducible exact Below.refl _ _) | (with_reducible assumption) | (with_reducible refine Below.alloc ?_ ?_ _) | (with_reducible refine Below.drew ?_) | (with_reducible refine below_drewN ?_ _) | (with_reducible refine Below.setCell ?_ ?_ _) | (exact Below.size (by with_reducible assumption)) | go_size)))))
  have hF1 := ((hF1.alloc _).alloc _).below hbk
  have hO := ((Out.start _ 29 r1 r2 wm.heap.size rfl).alloc _).below hbk
  obtain ⟨hy1, o1, o2, o3, o4⟩ := id hO
  have hB1 := hB2
  obtain ⟨hz1, e1, e2, e3, e4, e5, e6, e7, e8⟩ := id hF1; obtain ⟨l1, l2, l3, l4⟩ := hF1.lts
  go_wp2_with fail
  refine (RT.out _).mono ?_
  rintro e wn ⟨rfl, hbn⟩
  have hO := hO.below hbn
  have hF1 := hF1.below hbn; have hB1 := hB1.trans (hbn.mono hB1.size); clear hbn
  obtain ⟨hy1, o1, o2, o3, o4⟩ := id hO
  obtain ⟨hz1, e1, e2, e3, e4, e5, e6, e7, e8⟩ := id hF1; obtain ⟨l1, l2, l3, l4⟩ := hF1.lts
  go_wp2_with fail
  refine (RC.out _).mono ?_
  rintro e wx ⟨rfl, hbx⟩
  have hO := (hO.alloc _).below hbx
  have hB3 := (show Below w.heap.size w _ from by (repeat' (first | (with_reducible exact Below.refl _ _) | (with_reducible assumption) | (with_reducible refine Below.alloc ?_ ?_ _) | (with_reducible refine Below.drew ?_) | (with_reducible refine below_drewN ?_ _) | (with_reducible refine Below.setCell ?_ ?_ _) | (exact Below.size (by with_reducible assumption)) | go_size))).trans (hbx.mono (Below.size (show Below w.heap.size w _ from by (repeat' (first | (with_reducible exact Below.refl _ _) | (with_reducible assumption) | (with_reducible refine Below.alloc ?_ ?_ _) | (with_reducible refine Below.drew ?_) | (with_reducible refine below_drewN ?_ _) | (with_reducible refine Below.setCell ?_ ?_ _) | (exact Below.size (by with_reducible assumption)) | go_size)))))
  have hP := (Out.start _ 29 r1 r2 wn.heap.size rfl).below hbx
  obtain ⟨hy1, o1, o2, o3, o4⟩ := id hO
  obtain ⟨hz1, p1, p2, p3, p4⟩ := id hP
  go_wp2
  go_returns
  exact ⟨ret_bool (by simp), by assumption⟩
end Go.Proofs.Ytcabnkclelgoeaa
