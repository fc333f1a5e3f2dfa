/- The law PlanePoints: the walk, the three first points valid. -/
import Derived.Test.YtcabnkclelgoeaaPB
namespace Go.Proofs.Ytcabnkclelgoeaa
set_option linter.unusedSimpArgs false
set_option linter.unusedVariables false
attribute [local go_sem ↓] Go.wp_at_zero Go.wp_at_succ
open Go.ChangeShapes Go.WideShapes Go.ChangeAt Go.RowKit

set_option maxRecDepth 100000 in
set_option maxHeartbeats 1000000 in
theorem points_q (a1 a2 b1 b2 c1 c2 d1 d2 : Int) (w : World) (ha : okP (a1, a2) = true) (hb : okP (b1, b2) = true) (hc : okP (c1, c2) = true) (hd : okP (d1, d2) = false) :
    Calls Try.prog 6 #[pt a1 a2, pt b1 b2, pt c1 c2, pt d1 d2] w fun e w' => e = .returned (.bool true) ∧ Below w.heap.size w w' := by
  obtain ⟨r, hr1, hr2⟩ := sqroot (a1, a2) (b1, b2)
  have HD := fun W => dist_ok a1 a2 b1 b2 r W ha hb hr1 hr2
  have RD := fun W => rdist_ok a1 a2 b1 b2 r W ha hb hr1 hr2
  generalize (if (r : Int) * r < sqZ (a1, a2) (b1, b2) then (r : Int) + 1 else (r : Int)) = s at HD RD
  have HD := Lib.hid HD
  have RD := Lib.hid RD
  have hsp : ∀ W, (binOp .neq 44 (.agg #[.int .i64 (r : Int), .int .i64 s]) (.agg #[.int .i64 (r : Int), .int .i64 s])).run Try.prog W = .ok (.bool false) W := fun W => by rw [run_neqspan]; simp
  clear hr1 hr2
  have HO := fun W => orient_ok a1 a2 b1 b2 c1 c2 W ha hb hc
  have HN := fun W => near_ok a1 a2 b1 b2 c1 c2 W ha hb hc
  have RT := fun W => rturn_ok a1 a2 b1 b2 c1 c2 W ha hb hc
  have Q1 := fun W => rsquare_ok a1 a2 b1 b2 W ha hb
  have Q2 := fun W => rsquare_ok a1 a2 c1 c2 W ha hc
  have QS := fun W => sign_any (sqZ (a1, a2) (b1, b2) - sqZ (a1, a2) (c1, c2)) W
  rw [cmp_sub] at QS
  obtain ⟨s1, s2⟩ := sqZ_bd ha hb
  obtain ⟨s3, s4⟩ := sqZ_bd ha hc
  have HI := Lib.hid (fun W => inside_arg d1 d2 a1 a2 b1 b2 c1 c2 W (by simp [hd]))
  generalize turnZ (a1, a2) (b1, b2) (c1, c2) = t at *
  generalize sqZ (a1, a2) (b1, b2) = u1 at *
  generalize sqZ (a1, a2) (c1, c2) = u2 at *
  have RS := fun W => sign_any t W
  generalize cmpZ t 0 = sg at *
  generalize cmpZ u1 u2 = un at *
  have HO := Lib.hid HO
  have HN := Lib.hid HN
  have RT := Lib.hid RT
  have RS := Lib.hid RS
  have Q1 := Lib.hid Q1
  have Q2 := Lib.hid Q2
  have QS := Lib.hid QS
  go_enter Try.func6, Try.ntmps6
  go_wp2_with fail
  refine (awake_true _).mono ?_
  rintro e wn ⟨rfl, hbn⟩
  have hF1 := (Four.start w 23 a1 a2 b1 b2 c1 c2 d1 d2).below hbn
  have hB1 := (show Below w.heap.size w _ from by (repeat' (first | (with_reducible exact Below.refl _ _) | (with_reducible assumption) | (with_reducible refine Below.alloc ?_ ?_ _) | (with_reducible refine Below.drew ?_) | (with_reducible refine below_drewN ?_ _) | (with_reducible refine Below.setCell ?_ ?_ _) | (exact Below.size (by with_reducible assumption)) | go_size))).trans (hbn.mono (by simp; omega))
  clear hbn
  obtain ⟨hz1, e1, e2, e3, e4, e5, e6, e7, e8⟩ := id hF1; obtain ⟨l1, l2, l3, l4⟩ := hF1.lts
  go_wp2_with fail
  refine (HO.out _).mono ?_
  rintro e wn ⟨rfl, hbn⟩
  have hF1 := hF1.below hbn; have hB1 := hB1.trans (hbn.mono hB1.size); clear hbn
  obtain ⟨hz1, e1, e2, e3, e4, e5, e6, e7, e8⟩ := id hF1; obtain ⟨l1, l2, l3, l4⟩ := hF1.lts
  go_wp2_with fail
  refine (HN.out _).mono ?_
  rintro e wn ⟨rfl, hbn⟩
  have hF1 := hF1.below hbn; have hB1 := hB1.trans (hbn.mono hB1.size); clear hbn
  obtain ⟨hz1, e1, e2, e3, e4, e5, e6, e7, e8⟩ := id hF1; obtain ⟨l1, l2, l3, l4⟩ := hF1.lts
  go_wp2_with fail
  refine (HD.out _).mono ?_
  rintro e wd ⟨rfl, hbn⟩
  have hF1 := hF1.below hbn; have hB1 := hB1.trans (hbn.mono hB1.size); clear hbn
  obtain ⟨hz1, e1, e2, e3, e4, e5, e6, e7, e8⟩ := id hF1; obtain ⟨l1, l2, l3, l4⟩ := hF1.lts
  go_wp2_with fail
  refine (HI.out _).mono ?_
  rintro e wn ⟨rfl, hbn⟩
  have hO := (Out.start wd 44 (r : Int) s wd.heap.size rfl).below hbn
  have hF1 := (hF1.alloc _).below hbn
  have hB1 := (show Below w.heap.size w _ from by (repeat' (first | (with_reducible exact Below.refl _ _) | (with_reducible assumption) | (with_reducible refine Below.alloc ?_ ?_ _) | (with_reducible refine Below.drew ?_) | (with_reducible refine below_drewN ?_ _) | (with_reducible refine Below.setCell ?_ ?_ _) | (exact Below.size (by with_reducible assumption)) | go_size))).trans (hbn.mono (Below.size (show Below w.heap.size w _ from by (repeat' (first | (with_reducible exact Below.refl _ _) | (with_reducible assumption) | (with_reducible refine Below.alloc ?_ ?_ _) | (with_reducible refine Below.drew ?_) | (with_reducible refine below_drewN ?_ _) | (with_reducible refine Below.setCell ?_ ?_ _) | (exact Below.size (by with_reducible assumption)) | go_size)))))
  clear hbn
  obtain ⟨hz1, e1, e2, e3, e4, e5, e6, e7, e8⟩ := id hF1; obtain ⟨l1, l2, l3, l4⟩ := hF1.lts; obtain ⟨hy1, o1, o2, o3, o4⟩ := id hO
  go_wp2_with fail
  have hF1 := hF1.drew
  have hB1 := hB1.drew
  have hO := Out.drew hO
  go_region_held3 (fun w' => w'.cell? ⟨w.heap.size, 0, none⟩ = some (.int .i64 a1) ∧ w'.cell? ⟨w.heap.size, 1, none⟩ = some (.int .i64 a2) ∧ w'.cell? ⟨w.heap.size + 1, 0, none⟩ = some (.int .i64 b1) ∧ w'.cell? ⟨w.heap.size + 1, 1, none⟩ = some (.int .i64 b2) ∧ w'.cell? ⟨w.heap.size + 1 + 1, 0, none⟩ = some (.int .i64 c1) ∧ w'.cell? ⟨w.heap.size + 1 + 1, 1, none⟩ = some (.int .i64 c2) ∧ w'.cell? ⟨w.heap.size + 1 + 1 + 1, 0, none⟩ = some (.int .i64 d1) ∧ w'.cell? ⟨w.heap.size + 1 + 1 + 1, 1, none⟩ = some (.int .i64 d2)) (exact hF1.2)
    (first
     | (go_at_call 17; (with_reducible refine (valid_any _ _ _).mono ?_); rintro e wn ⟨rfl, hbn⟩; have hF1 := hF1.below hbn; have hO := hO.below hbn; have hB1 := hB1.trans (hbn.mono hB1.size); clear hbn)
     | (go_at_call 22; (with_reducible refine (rvalid_any _ _ _).mono ?_); rintro e wn ⟨rfl, hbn⟩; have hF1 := hF1.below hbn; have hO := hO.below hbn; have hB1 := hB1.trans (hbn.mono hB1.size); clear hbn))
  obtain ⟨hz1, e1, e2, e3, e4, e5, e6, e7, e8⟩ := id hF1; obtain ⟨l1, l2, l3, l4⟩ := hF1.lts; obtain ⟨hy1, o1, o2, o3, o4⟩ := id hO
  go_wp2_with (go_at_call 22; (with_reducible refine (rvalid_any _ _ _).mono ?_); rintro e wn ⟨rfl, hbn⟩; have hF1 := hF1.below hbn; have hO := hO.below hbn; have hB1 := hB1.trans (hbn.mono hB1.size); clear hbn; obtain ⟨hz1, e1, e2, e3, e4, e5, e6, e7, e8⟩ := id hF1; obtain ⟨l1, l2, l3, l4⟩ := hF1.lts; obtain ⟨hy1, o1, o2, o3, o4⟩ := id hO)
  have hF1 := hF1.drew
  have hB1 := hB1.drew
  have hO := Out.drew hO
  go_region_held3 (fun w' => w'.cell? ⟨w.heap.size, 0, none⟩ = some (.int .i64 a1) ∧ w'.cell? ⟨w.heap.size, 1, none⟩ = some (.int .i64 a2) ∧ w'.cell? ⟨w.heap.size + 1, 0, none⟩ = some (.int .i64 b1) ∧ w'.cell? ⟨w.heap.size + 1, 1, none⟩ = some (.int .i64 b2) ∧ w'.cell? ⟨w.heap.size + 1 + 1, 0, none⟩ = some (.int .i64 c1) ∧ w'.cell? ⟨w.heap.size + 1 + 1, 1, none⟩ = some (.int .i64 c2) ∧ w'.cell? ⟨w.heap.size + 1 + 1 + 1, 0, none⟩ = some (.int .i64 d1) ∧ w'.cell? ⟨w.heap.size + 1 + 1 + 1, 1, none⟩ = some (.int .i64 d2) ∧ w'.cell? ⟨wd.heap.size, 0, none⟩ = some (.int .i64 (r : Int)) ∧ w'.cell? ⟨wd.heap.size, 1, none⟩ = some (.int .i64 s)) (exact ⟨hF1.2.1, hF1.2.2.1, hF1.2.2.2.1, hF1.2.2.2.2.1, hF1.2.2.2.2.2.1, hF1.2.2.2.2.2.2.1, hF1.2.2.2.2.2.2.2.1, hF1.2.2.2.2.2.2.2.2, hO.2.1, hO.2.2.1⟩)
    (first | (go_at_call 23; (with_reducible refine (RD.out _).mono ?_); rintro e wn ⟨rfl, hbn⟩; have hF1 := hF1.below hbn; have hO := hO.below hbn; have hB1 := hB1.trans (hbn.mono hB1.size); clear hbn))
  obtain ⟨hz1, e1, e2, e3, e4, e5, e6, e7, e8⟩ := id hF1; obtain ⟨l1, l2, l3, l4⟩ := hF1.lts; obtain ⟨hy1, o1, o2, o3, o4⟩ := id hO
  go_wp2_with (first
    | (go_at_call 22; (with_reducible refine (rvalid_any _ _ _).mono ?_); rintro e wn ⟨rfl, hbn⟩; have hF1 := hF1.below hbn; have hO := hO.below hbn; have hB1 := hB1.trans (hbn.mono hB1.size); clear hbn; obtain ⟨hz1, e1, e2, e3, e4, e5, e6, e7, e8⟩ := id hF1; obtain ⟨l1, l2, l3, l4⟩ := hF1.lts; obtain ⟨hy1, o1, o2, o3, o4⟩ := id hO)
    | (go_at_call 25; (with_reducible refine (RT.out _).mono ?_); rintro e wn ⟨rfl, hbn⟩; have hF1 := hF1.below hbn; have hO := hO.below hbn; have hB1 := hB1.trans (hbn.mono hB1.size); clear hbn; obtain ⟨hz1, e1, e2, e3, e4, e5, e6, e7, e8⟩ := id hF1; obtain ⟨l1, l2, l3, l4⟩ := hF1.lts; obtain ⟨hy1, o1, o2, o3, o4⟩ := id hO)
    | (go_at_call 24; (with_reducible refine (RS.out _).mono ?_); rintro e wn ⟨rfl, rfl⟩))
  have iw : IntKind.i64.wrap (u1 - u2) = u1 - u2 := IntWalk.i64_in _ (by omega)
  have hF1 := hF1.drew
  have hB1 := hB1.drew
  have hO := Out.drew hO
  go_region_held3 (fun w' => w'.cell? ⟨w.heap.size, 0, none⟩ = some (.int .i64 a1) ∧ w'.cell? ⟨w.heap.size, 1, none⟩ = some (.int .i64 a2) ∧ w'.cell? ⟨w.heap.size + 1, 0, none⟩ = some (.int .i64 b1) ∧ w'.cell? ⟨w.heap.size + 1, 1, none⟩ = some (.int .i64 b2) ∧ w'.cell? ⟨w.heap.size + 1 + 1, 0, none⟩ = some (.int .i64 c1) ∧ w'.cell? ⟨w.heap.size + 1 + 1, 1, none⟩ = some (.int .i64 c2) ∧ w'.cell? ⟨w.heap.size + 1 + 1 + 1, 0, none⟩ = some (.int .i64 d1) ∧ w'.cell? ⟨w.heap.size + 1 + 1 + 1, 1, none⟩ = some (.int .i64 d2)) (exact hF1.2)
    (first
     | (go_at_call 26; (with_reducible refine (Q1.out _).mono ?_); rintro e wn ⟨rfl, hbn⟩; have hF1 := hF1.below hbn; have hO := hO.below hbn; have hB1 := hB1.trans (hbn.mono hB1.size); clear hbn)
     | (go_at_call 26; (with_reducible refine (Q2.out _).mono ?_); rintro e wn ⟨rfl, hbn⟩; have hF1 := hF1.below hbn; have hO := hO.below hbn; have hB1 := hB1.trans (hbn.mono hB1.size); clear hbn)
     | (go_at_call 24; (with_reducible refine (QS.out _).mono ?_); rintro e wn ⟨rfl, rfl⟩))
  obtain ⟨hz1, e1, e2, e3, e4, e5, e6, e7, e8⟩ := id hF1; obtain ⟨l1, l2, l3, l4⟩ := hF1.lts; obtain ⟨hy1, o1, o2, o3, o4⟩ := id hO
  go_wp2_with (go_at_call 22; (with_reducible refine (rvalid_any _ _ _).mono ?_); rintro e wn ⟨rfl, hbn⟩; have hF1 := hF1.below hbn; have hO := hO.below hbn; have hB1 := hB1.trans (hbn.mono hB1.size); clear hbn; obtain ⟨hz1, e1, e2, e3, e4, e5, e6, e7, e8⟩ := id hF1; obtain ⟨l1, l2, l3, l4⟩ := hF1.lts; obtain ⟨hy1, o1, o2, o3, o4⟩ := id hO)
  all_goals (go_returns; exact ⟨rfl, by assumption⟩)

set_option maxRecDepth 100000 in
set_option maxHeartbeats 1000000 in
theorem points_flat (a1 a2 b1 b2 c1 c2 d1 d2 : Int) (w : World) (ha : okP (a1, a2) = true) (hb : okP (b1, b2) = true) (hc : okP (c1, c2) = true) (hd : okP (d1, d2) = true) (h0 : turnZ (a1, a2) (b1, b2) (c1, c2) = 0) :
    Calls Try.prog 6 #[pt a1 a2, pt b1 b2, pt c1 c2, pt d1 d2] w fun e w' => e = .returned (.bool true) ∧ Below w.heap.size w w' := by
  obtain ⟨r, hr1, hr2⟩ := sqroot (a1, a2) (b1, b2)
  have HD := fun W => dist_ok a1 a2 b1 b2 r W ha hb hr1 hr2
  have RD := fun W => rdist_ok a1 a2 b1 b2 r W ha hb hr1 hr2
  generalize (if (r : Int) * r < sqZ (a1, a2) (b1, b2) then (r : Int) + 1 else (r : Int)) = s at HD RD
  have HD := Lib.hid HD
  have RD := Lib.hid RD
  have hsp : ∀ W, (binOp .neq 44 (.agg #[.int .i64 (r : Int), .int .i64 s]) (.agg #[.int .i64 (r : Int), .int .i64 s])).run Try.prog W = .ok (.bool false) W := fun W => by rw [run_neqspan]; simp
  clear hr1 hr2
  have HO := fun W => orient_ok a1 a2 b1 b2 c1 c2 W ha hb hc
  have HN := fun W => near_ok a1 a2 b1 b2 c1 c2 W ha hb hc
  have RT := fun W => rturn_ok a1 a2 b1 b2 c1 c2 W ha hb hc
  have Q1 := fun W => rsquare_ok a1 a2 b1 b2 W ha hb
  have Q2 := fun W => rsquare_ok a1 a2 c1 c2 W ha hc
  have QS := fun W => sign_any (sqZ (a1, a2) (b1, b2) - sqZ (a1, a2) (c1, c2)) W
  rw [cmp_sub] at QS
  obtain ⟨s1, s2⟩ := sqZ_bd ha hb
  obtain ⟨s3, s4⟩ := sqZ_bd ha hc
  have HI := Lib.hid (fun W => inside_shape d1 d2 a1 a2 b1 b2 c1 c2 W hd ha hb hc h0)
  have hsg : cmpZ (turnZ (a1, a2) (b1, b2) (c1, c2)) 0 = 0 := by rw [h0]; decide
  have hsg : (cmpZ (turnZ (a1, a2) (b1, b2) (c1, c2)) 0 == 0) = true := by rw [hsg]; rfl
  clear h0
  generalize turnZ (a1, a2) (b1, b2) (c1, c2) = t at *
  generalize sqZ (a1, a2) (b1, b2) = u1 at *
  generalize sqZ (a1, a2) (c1, c2) = u2 at *
  have RS := fun W => sign_any t W
  generalize cmpZ t 0 = sg at *
  generalize cmpZ u1 u2 = un at *
  have HO := Lib.hid HO
  have HN := Lib.hid HN
  have RT := Lib.hid RT
  have RS := Lib.hid RS
  have Q1 := Lib.hid Q1
  have Q2 := Lib.hid Q2
  have QS := Lib.hid QS
  go_enter Try.func6, Try.ntmps6
  go_wp2_with fail
  refine (awake_true _).mono ?_
  rintro e wn ⟨rfl, hbn⟩
  have hF1 := (Four.start w 23 a1 a2 b1 b2 c1 c2 d1 d2).below hbn
  have hB1 := (show Below w.heap.size w _ from by (repeat' (first | (with_reducible exact Below.refl _ _) | (with_reducible assumption) | (with_reducible refine Below.alloc ?_ ?_ _) | (with_reducible refine Below.drew ?_) | (with_reducible refine below_drewN ?_ _) | (with_reducible refine Below.setCell ?_ ?_ _) | (exact Below.size (by with_reducible assumption)) | go_size))).trans (hbn.mono (by simp; omega))
  clear hbn
  obtain ⟨hz1, e1, e2, e3, e4, e5, e6, e7, e8⟩ := id hF1; obtain ⟨l1, l2, l3, l4⟩ := hF1.lts
  go_wp2_with fail
  refine (HO.out _).mono ?_
  rintro e wn ⟨rfl, hbn⟩
  have hF1 := hF1.below hbn; have hB1 := hB1.trans (hbn.mono hB1.size); clear hbn
  obtain ⟨hz1, e1, e2, e3, e4, e5, e6, e7, e8⟩ := id hF1; obtain ⟨l1, l2, l3, l4⟩ := hF1.lts
  go_wp2_with fail
  refine (HN.out _).mono ?_
  rintro e wn ⟨rfl, hbn⟩
  have hF1 := hF1.below hbn; have hB1 := hB1.trans (hbn.mono hB1.size); clear hbn
  obtain ⟨hz1, e1, e2, e3, e4, e5, e6, e7, e8⟩ := id hF1; obtain ⟨l1, l2, l3, l4⟩ := hF1.lts
  go_wp2_with fail
  refine (HD.out _).mono ?_
  rintro e wd ⟨rfl, hbn⟩
  have hF1 := hF1.below hbn; have hB1 := hB1.trans (hbn.mono hB1.size); clear hbn
  obtain ⟨hz1, e1, e2, e3, e4, e5, e6, e7, e8⟩ := id hF1; obtain ⟨l1, l2, l3, l4⟩ := hF1.lts
  go_wp2_with fail
  refine (HI.out _).mono ?_
  rintro e wn ⟨rfl, hbn⟩
  have hO := (Out.start wd 44 (r : Int) s wd.heap.size rfl).below hbn
  have hF1 := (hF1.alloc _).below hbn
  have hB1 := (show Below w.heap.size w _ from by (repeat' (first | (with_reducible exact Below.refl _ _) | (with_reducible assumption) | (with_reducible refine Below.alloc ?_ ?_ _) | (with_reducible refine Below.drew ?_) | (with_reducible refine below_drewN ?_ _) | (with_reducible refine Below.setCell ?_ ?_ _) | (exact Below.size (by with_reducible assumption)) | go_size))).trans (hbn.mono (Below.size (show Below w.heap.size w _ from by (repeat' (first | (with_reducible exact Below.refl _ _) | (with_reducible assumption) | (with_reducible refine Below.alloc ?_ ?_ _) | (with_reducible refine Below.drew ?_) | (with_reducible refine below_drewN ?_ _) | (with_reducible refine Below.setCell ?_ ?_ _) | (exact Below.size (by with_reducible assumption)) | go_size)))))
  clear hbn
  obtain ⟨hz1, e1, e2, e3, e4, e5, e6, e7, e8⟩ := id hF1; obtain ⟨l1, l2, l3, l4⟩ := hF1.lts; obtain ⟨hy1, o1, o2, o3, o4⟩ := id hO
  go_wp2_with fail
  have hF1 := hF1.drew
  have hB1 := hB1.drew
  have hO := Out.drew hO
  go_region_held3 (fun w' => w'.cell? ⟨w.heap.size, 0, none⟩ = some (.int .i64 a1) ∧ w'.cell? ⟨w.heap.size, 1, none⟩ = some (.int .i64 a2) ∧ w'.cell? ⟨w.heap.size + 1, 0, none⟩ = some (.int .i64 b1) ∧ w'.cell? ⟨w.heap.size + 1, 1, none⟩ = some (.int .i64 b2) ∧ w'.cell? ⟨w.heap.size + 1 + 1, 0, none⟩ = some (.int .i64 c1) ∧ w'.cell? ⟨w.heap.size + 1 + 1, 1, none⟩ = some (.int .i64 c2) ∧ w'.cell? ⟨w.heap.size + 1 + 1 + 1, 0, none⟩ = some (.int .i64 d1) ∧ w'.cell? ⟨w.heap.size + 1 + 1 + 1, 1, none⟩ = some (.int .i64 d2)) (exact hF1.2)
    (first
     | (go_at_call 17; (with_reducible refine (valid_any _ _ _).mono ?_); rintro e wn ⟨rfl, hbn⟩; have hF1 := hF1.below hbn; have hO := hO.below hbn; have hB1 := hB1.trans (hbn.mono hB1.size); clear hbn)
     | (go_at_call 22; (with_reducible refine (rvalid_any _ _ _).mono ?_); rintro e wn ⟨rfl, hbn⟩; have hF1 := hF1.below hbn; have hO := hO.below hbn; have hB1 := hB1.trans (hbn.mono hB1.size); clear hbn))
  obtain ⟨hz1, e1, e2, e3, e4, e5, e6, e7, e8⟩ := id hF1; obtain ⟨l1, l2, l3, l4⟩ := hF1.lts; obtain ⟨hy1, o1, o2, o3, o4⟩ := id hO
  go_wp2_with (go_at_call 22; (with_reducible refine (rvalid_any _ _ _).mono ?_); rintro e wn ⟨rfl, hbn⟩; have hF1 := hF1.below hbn; have hO := hO.below hbn; have hB1 := hB1.trans (hbn.mono hB1.size); clear hbn; obtain ⟨hz1, e1, e2, e3, e4, e5, e6, e7, e8⟩ := id hF1; obtain ⟨l1, l2, l3, l4⟩ := hF1.lts; obtain ⟨hy1, o1, o2, o3, o4⟩ := id hO)
  have hF1 := hF1.drew
  have hB1 := hB1.drew
  have hO := Out.drew hO
  go_region_held3 (fun w' => w'.cell? ⟨w.heap.size, 0, none⟩ = some (.int .i64 a1) ∧ w'.cell? ⟨w.heap.size, 1, none⟩ = some (.int .i64 a2) ∧ w'.cell? ⟨w.heap.size + 1, 0, none⟩ = some (.int .i64 b1) ∧ w'.cell? ⟨w.heap.size + 1, 1, none⟩ = some (.int .i64 b2) ∧ w'.cell? ⟨w.heap.size + 1 + 1, 0, none⟩ = some (.int .i64 c1) ∧ w'.cell? ⟨w.heap.size + 1 + 1, 1, none⟩ = some (.int .i64 c2) ∧ w'.cell? ⟨w.heap.size + 1 + 1 + 1, 0, none⟩ = some (.int .i64 d1) ∧ w'.cell? ⟨w.heap.size + 1 + 1 + 1, 1, none⟩ = some (.int .i64 d2) ∧ w'.cell? ⟨wd.heap.size, 0, none⟩ = some (.int .i64 (r : Int)) ∧ w'.cell? ⟨wd.heap.size, 1, none⟩ = some (.int .i64 s)) (exact ⟨hF1.2.1, hF1.2.2.1, hF1.2.2.2.1, hF1.2.2.2.2.1, hF1.2.2.2.2.2.1, hF1.2.2.2.2.2.2.1, hF1.2.2.2.2.2.2.2.1, hF1.2.2.2.2.2.2.2.2, hO.2.1, hO.2.2.1⟩)
    (first | (go_at_call 23; (with_reducible refine (RD.out _).mono ?_); rintro e wn ⟨rfl, hbn⟩; have hF1 := hF1.below hbn; have hO := hO.below hbn; have hB1 := hB1.trans (hbn.mono hB1.size); clear hbn))
  obtain ⟨hz1, e1, e2, e3, e4, e5, e6, e7, e8⟩ := id hF1; obtain ⟨l1, l2, l3, l4⟩ := hF1.lts; obtain ⟨hy1, o1, o2, o3, o4⟩ := id hO
  go_wp2_with (first
    | (go_at_call 22; (with_reducible refine (rvalid_any _ _ _).mono ?_); rintro e wn ⟨rfl, hbn⟩; have hF1 := hF1.below hbn; have hO := hO.below hbn; have hB1 := hB1.trans (hbn.mono hB1.size); clear hbn; obtain ⟨hz1, e1, e2, e3, e4, e5, e6, e7, e8⟩ := id hF1; obtain ⟨l1, l2, l3, l4⟩ := hF1.lts; obtain ⟨hy1, o1, o2, o3, o4⟩ := id hO)
    | (go_at_call 25; (with_reducible refine (RT.out _).mono ?_); rintro e wn ⟨rfl, hbn⟩; have hF1 := hF1.below hbn; have hO := hO.below hbn; have hB1 := hB1.trans (hbn.mono hB1.size); clear hbn; obtain ⟨hz1, e1, e2, e3, e4, e5, e6, e7, e8⟩ := id hF1; obtain ⟨l1, l2, l3, l4⟩ := hF1.lts; obtain ⟨hy1, o1, o2, o3, o4⟩ := id hO)
    | (go_at_call 24; (with_reducible refine (RS.out _).mono ?_); rintro e wn ⟨rfl, rfl⟩))
  have iw : IntKind.i64.wrap (u1 - u2) = u1 - u2 := IntWalk.i64_in _ (by omega)
  have hF1 := hF1.drew
  have hB1 := hB1.drew
  have hO := Out.drew hO
  go_region_held3 (fun w' => w'.cell? ⟨w.heap.size, 0, none⟩ = some (.int .i64 a1) ∧ w'.cell? ⟨w.heap.size, 1, none⟩ = some (.int .i64 a2) ∧ w'.cell? ⟨w.heap.size + 1, 0, none⟩ = some (.int .i64 b1) ∧ w'.cell? ⟨w.heap.size + 1, 1, none⟩ = some (.int .i64 b2) ∧ w'.cell? ⟨w.heap.size + 1 + 1, 0, none⟩ = some (.int .i64 c1) ∧ w'.cell? ⟨w.heap.size + 1 + 1, 1, none⟩ = some (.int .i64 c2) ∧ w'.cell? ⟨w.heap.size + 1 + 1 + 1, 0, none⟩ = some (.int .i64 d1) ∧ w'.cell? ⟨w.heap.size + 1 + 1 + 1, 1, none⟩ = some (.int .i64 d2)) (exact hF1.2)
    (first
     | (go_at_call 26; (with_reducible refine (Q1.out _).mono ?_); rintro e wn ⟨rfl, hbn⟩; have hF1 := hF1.below hbn; have hO := hO.below hbn; have hB1 := hB1.trans (hbn.mono hB1.size); clear hbn)
     | (go_at_call 26; (with_reducible refine (Q2.out _).mono ?_); rintro e wn ⟨rfl, hbn⟩; have hF1 := hF1.below hbn; have hO := hO.below hbn; have hB1 := hB1.trans (hbn.mono hB1.size); clear hbn)
     | (go_at_call 24; (with_reducible refine (QS.out _).mono ?_); rintro e wn ⟨rfl, rfl⟩))
  obtain ⟨hz1, e1, e2, e3, e4, e5, e6, e7, e8⟩ := id hF1; obtain ⟨l1, l2, l3, l4⟩ := hF1.lts; obtain ⟨hy1, o1, o2, o3, o4⟩ := id hO
  go_wp2_with (go_at_call 22; (with_reducible refine (rvalid_any _ _ _).mono ?_); rintro e wn ⟨rfl, hbn⟩; have hF1 := hF1.below hbn; have hO := hO.below hbn; have hB1 := hB1.trans (hbn.mono hB1.size); clear hbn; obtain ⟨hz1, e1, e2, e3, e4, e5, e6, e7, e8⟩ := id hF1; obtain ⟨l1, l2, l3, l4⟩ := hF1.lts; obtain ⟨hy1, o1, o2, o3, o4⟩ := id hO)
  all_goals (go_returns; exact ⟨rfl, by assumption⟩)

set_option maxRecDepth 100000 in
set_option maxHeartbeats 1000000 in
theorem points_full (a1 a2 b1 b2 c1 c2 d1 d2 : Int) (w : World) (ha : okP (a1, a2) = true) (hb : okP (b1, b2) = true) (hc : okP (c1, c2) = true) (hd : okP (d1, d2) = true) (h0 : turnZ (a1, a2) (b1, b2) (c1, c2) ≠ 0) :
    Calls Try.prog 6 #[pt a1 a2, pt b1 b2, pt c1 c2, pt d1 d2] w fun e w' => e = .returned (.bool true) ∧ Below w.heap.size w w' := by
  obtain ⟨r, hr1, hr2⟩ := sqroot (a1, a2) (b1, b2)
  have HD := fun W => dist_ok a1 a2 b1 b2 r W ha hb hr1 hr2
  have RD := fun W => rdist_ok a1 a2 b1 b2 r W ha hb hr1 hr2
  generalize (if (r : Int) * r < sqZ (a1, a2) (b1, b2) then (r : Int) + 1 else (r : Int)) = s at HD RD
  have HD := Lib.hid HD
  have RD := Lib.hid RD
  have hsp : ∀ W, (binOp .neq 44 (.agg #[.int .i64 (r : Int), .int .i64 s]) (.agg #[.int .i64 (r : Int), .int .i64 s])).run Try.prog W = .ok (.bool false) W := fun W => by rw [run_neqspan]; simp
  clear hr1 hr2
  have HO := fun W => orient_ok a1 a2 b1 b2 c1 c2 W ha hb hc
  have HN := fun W => near_ok a1 a2 b1 b2 c1 c2 W ha hb hc
  have RT := fun W => rturn_ok a1 a2 b1 b2 c1 c2 W ha hb hc
  have Q1 := fun W => rsquare_ok a1 a2 b1 b2 W ha hb
  have Q2 := fun W => rsquare_ok a1 a2 c1 c2 W ha hc
  have QS := fun W => sign_any (sqZ (a1, a2) (b1, b2) - sqZ (a1, a2) (c1, c2)) W
  rw [cmp_sub] at QS
  obtain ⟨s1, s2⟩ := sqZ_bd ha hb
  obtain ⟨s3, s4⟩ := sqZ_bd ha hc
  have HI := fun W => inside_ok d1 d2 a1 a2 b1 b2 c1 c2 W hd ha hb hc h0
  have RI := fun W => rinside_ok d1 d2 a1 a2 b1 b2 c1 c2 W hd ha hb hc
  generalize insideZ (d1, d2) (a1, a2) (b1, b2) (c1, c2) = iv at HI RI
  have HI := Lib.hid HI
  have RI := Lib.hid RI
  have hsg : cmpZ (turnZ (a1, a2) (b1, b2) (c1, c2)) 0 ≠ 0 := by rcases cmpZ_cases (turnZ (a1, a2) (b1, b2) (c1, c2)) 0 with h | h | h <;> omega
  have hsg : (cmpZ (turnZ (a1, a2) (b1, b2) (c1, c2)) 0 == 0) = false := by rw [beq_eq_false_iff_ne]; exact hsg
  clear h0
  generalize turnZ (a1, a2) (b1, b2) (c1, c2) = t at *
  generalize sqZ (a1, a2) (b1, b2) = u1 at *
  generalize sqZ (a1, a2) (c1, c2) = u2 at *
  have RS := fun W => sign_any t W
  generalize cmpZ t 0 = sg at *
  generalize cmpZ u1 u2 = un at *
  have HO := Lib.hid HO
  have HN := Lib.hid HN
  have RT := Lib.hid RT
  have RS := Lib.hid RS
  have Q1 := Lib.hid Q1
  have Q2 := Lib.hid Q2
  have QS := Lib.hid QS
  go_enter Try.func6, Try.ntmps6
  go_wp2_with fail
  refine (awake_true _).mono ?_
  rintro e wn ⟨rfl, hbn⟩
  have hF1 := (Four.start w 23 a1 a2 b1 b2 c1 c2 d1 d2).below hbn
  have hB1 := (show Below w.heap.size w _ from by (repeat' (first | (with_reducible exact Below.refl _ _) | (with_reducible assumption) | (with_reducible refine Below.alloc ?_ ?_ _) | (with_reducible refine Below.drew ?_) | (with_reducible refine below_drewN ?_ _) | (with_reducible refine Below.setCell ?_ ?_ _) | (exact Below.size (by with_reducible assumption)) | go_size))).trans (hbn.mono (by simp; omega))
  clear hbn
  obtain ⟨hz1, e1, e2, e3, e4, e5, e6, e7, e8⟩ := id hF1; obtain ⟨l1, l2, l3, l4⟩ := hF1.lts
  go_wp2_with fail
  refine (HO.out _).mono ?_
  rintro e wn ⟨rfl, hbn⟩
  have hF1 := hF1.below hbn; have hB1 := hB1.trans (hbn.mono hB1.size); clear hbn
  obtain ⟨hz1, e1, e2, e3, e4, e5, e6, e7, e8⟩ := id hF1; obtain ⟨l1, l2, l3, l4⟩ := hF1.lts
  go_wp2_with fail
  refine (HN.out _).mono ?_
  rintro e wn ⟨rfl, hbn⟩
  have hF1 := hF1.below hbn; have hB1 := hB1.trans (hbn.mono hB1.size); clear hbn
  obtain ⟨hz1, e1, e2, e3, e4, e5, e6, e7, e8⟩ := id hF1; obtain ⟨l1, l2, l3, l4⟩ := hF1.lts
  go_wp2_with fail
  refine (HD.out _).mono ?_
  rintro e wd ⟨rfl, hbn⟩
  have hF1 := hF1.below hbn; have hB1 := hB1.trans (hbn.mono hB1.size); clear hbn
  obtain ⟨hz1, e1, e2, e3, e4, e5, e6, e7, e8⟩ := id hF1; obtain ⟨l1, l2, l3, l4⟩ := hF1.lts
  go_wp2_with fail
  refine (HI.out _).mono ?_
  rintro e wn ⟨rfl, hbn⟩
  have hO := (Out.start wd 44 (r : Int) s wd.heap.size rfl).below hbn
  have hF1 := (hF1.alloc _).below hbn
  have hB1 := (show Below w.heap.size w _ from by (repeat' (first | (with_reducible exact Below.refl _ _) | (with_reducible assumption) | (with_reducible refine Below.alloc ?_ ?_ _) | (with_reducible refine Below.drew ?_) | (with_reducible refine below_drewN ?_ _) | (with_reducible refine Below.setCell ?_ ?_ _) | (exact Below.size (by with_reducible assumption)) | go_size))).trans (hbn.mono (Below.size (show Below w.heap.size w _ from by (repeat' (first | (with_reducible exact Below.refl _ _) | (with_reducible assumption) | (with_reducible refine Below.alloc ?_ ?_ _) | (with_reducible refine Below.drew ?_) | (with_reducible refine below_drewN ?_ _) | (with_reducible refine Below.setCell ?_ ?_ _) | (exact Below.size (by with_reducible assumption)) | go_size)))))
  clear hbn
  obtain ⟨hz1, e1, e2, e3, e4, e5, e6, e7, e8⟩ := id hF1; obtain ⟨l1, l2, l3, l4⟩ := hF1.lts; obtain ⟨hy1, o1, o2, o3, o4⟩ := id hO
  go_wp2_with fail
  have hF1 := hF1.drew
  have hB1 := hB1.drew
  have hO := Out.drew hO
  go_region_held3 (fun w' => w'.cell? ⟨w.heap.size, 0, none⟩ = some (.int .i64 a1) ∧ w'.cell? ⟨w.heap.size, 1, none⟩ = some (.int .i64 a2) ∧ w'.cell? ⟨w.heap.size + 1, 0, none⟩ = some (.int .i64 b1) ∧ w'.cell? ⟨w.heap.size + 1, 1, none⟩ = some (.int .i64 b2) ∧ w'.cell? ⟨w.heap.size + 1 + 1, 0, none⟩ = some (.int .i64 c1) ∧ w'.cell? ⟨w.heap.size + 1 + 1, 1, none⟩ = some (.int .i64 c2) ∧ w'.cell? ⟨w.heap.size + 1 + 1 + 1, 0, none⟩ = some (.int .i64 d1) ∧ w'.cell? ⟨w.heap.size + 1 + 1 + 1, 1, none⟩ = some (.int .i64 d2)) (exact hF1.2)
    (first
     | (go_at_call 17; (with_reducible refine (valid_any _ _ _).mono ?_); rintro e wn ⟨rfl, hbn⟩; have hF1 := hF1.below hbn; have hO := hO.below hbn; have hB1 := hB1.trans (hbn.mono hB1.size); clear hbn)
     | (go_at_call 22; (with_reducible refine (rvalid_any _ _ _).mono ?_); rintro e wn ⟨rfl, hbn⟩; have hF1 := hF1.below hbn; have hO := hO.below hbn; have hB1 := hB1.trans (hbn.mono hB1.size); clear hbn))
  obtain ⟨hz1, e1, e2, e3, e4, e5, e6, e7, e8⟩ := id hF1; obtain ⟨l1, l2, l3, l4⟩ := hF1.lts; obtain ⟨hy1, o1, o2, o3, o4⟩ := id hO
  go_wp2_with (go_at_call 22; (with_reducible refine (rvalid_any _ _ _).mono ?_); rintro e wn ⟨rfl, hbn⟩; have hF1 := hF1.below hbn; have hO := hO.below hbn; have hB1 := hB1.trans (hbn.mono hB1.size); clear hbn; obtain ⟨hz1, e1, e2, e3, e4, e5, e6, e7, e8⟩ := id hF1; obtain ⟨l1, l2, l3, l4⟩ := hF1.lts; obtain ⟨hy1, o1, o2, o3, o4⟩ := id hO)
  have hF1 := hF1.drew
  have hB1 := hB1.drew
  have hO := Out.drew hO
  go_region_held3 (fun w' => w'.cell? ⟨w.heap.size, 0, none⟩ = some (.int .i64 a1) ∧ w'.cell? ⟨w.heap.size, 1, none⟩ = some (.int .i64 a2) ∧ w'.cell? ⟨w.heap.size + 1, 0, none⟩ = some (.int .i64 b1) ∧ w'.cell? ⟨w.heap.size + 1, 1, none⟩ = some (.int .i64 b2) ∧ w'.cell? ⟨w.heap.size + 1 + 1, 0, none⟩ = some (.int .i64 c1) ∧ w'.cell? ⟨w.heap.size + 1 + 1, 1, none⟩ = some (.int .i64 c2) ∧ w'.cell? ⟨w.heap.size + 1 + 1 + 1, 0, none⟩ = some (.int .i64 d1) ∧ w'.cell? ⟨w.heap.size + 1 + 1 + 1, 1, none⟩ = some (.int .i64 d2) ∧ w'.cell? ⟨wd.heap.size, 0, none⟩ = some (.int .i64 (r : Int)) ∧ w'.cell? ⟨wd.heap.size, 1, none⟩ = some (.int .i64 s)) (exact ⟨hF1.2.1, hF1.2.2.1, hF1.2.2.2.1, hF1.2.2.2.2.1, hF1.2.2.2.2.2.1, hF1.2.2.2.2.2.2.1, hF1.2.2.2.2.2.2.2.1, hF1.2.2.2.2.2.2.2.2, hO.2.1, hO.2.2.1⟩)
    (first | (go_at_call 23; (with_reducible refine (RD.out _).mono ?_); rintro e wn ⟨rfl, hbn⟩; have hF1 := hF1.below hbn; have hO := hO.below hbn; have hB1 := hB1.trans (hbn.mono hB1.size); clear hbn))
  obtain ⟨hz1, e1, e2, e3, e4, e5, e6, e7, e8⟩ := id hF1; obtain ⟨l1, l2, l3, l4⟩ := hF1.lts; obtain ⟨hy1, o1, o2, o3, o4⟩ := id hO
  go_wp2_with (first
    | (go_at_call 22; (with_reducible refine (rvalid_any _ _ _).mono ?_); rintro e wn ⟨rfl, hbn⟩; have hF1 := hF1.below hbn; have hO := hO.below hbn; have hB1 := hB1.trans (hbn.mono hB1.size); clear hbn; obtain ⟨hz1, e1, e2, e3, e4, e5, e6, e7, e8⟩ := id hF1; obtain ⟨l1, l2, l3, l4⟩ := hF1.lts; obtain ⟨hy1, o1, o2, o3, o4⟩ := id hO)
    | (go_at_call 25; (with_reducible refine (RT.out _).mono ?_); rintro e wn ⟨rfl, hbn⟩; have hF1 := hF1.below hbn; have hO := hO.below hbn; have hB1 := hB1.trans (hbn.mono hB1.size); clear hbn; obtain ⟨hz1, e1, e2, e3, e4, e5, e6, e7, e8⟩ := id hF1; obtain ⟨l1, l2, l3, l4⟩ := hF1.lts; obtain ⟨hy1, o1, o2, o3, o4⟩ := id hO)
    | (go_at_call 24; (with_reducible refine (RS.out _).mono ?_); rintro e wn ⟨rfl, rfl⟩))
  have iw : IntKind.i64.wrap (u1 - u2) = u1 - u2 := IntWalk.i64_in _ (by omega)
  have hF1 := hF1.drew
  have hB1 := hB1.drew
  have hO := Out.drew hO
  go_region_held3 (fun w' => w'.cell? ⟨w.heap.size, 0, none⟩ = some (.int .i64 a1) ∧ w'.cell? ⟨w.heap.size, 1, none⟩ = some (.int .i64 a2) ∧ w'.cell? ⟨w.heap.size + 1, 0, none⟩ = some (.int .i64 b1) ∧ w'.cell? ⟨w.heap.size + 1, 1, none⟩ = some (.int .i64 b2) ∧ w'.cell? ⟨w.heap.size + 1 + 1, 0, none⟩ = some (.int .i64 c1) ∧ w'.cell? ⟨w.heap.size + 1 + 1, 1, none⟩ = some (.int .i64 c2) ∧ w'.cell? ⟨w.heap.size + 1 + 1 + 1, 0, none⟩ = some (.int .i64 d1) ∧ w'.cell? ⟨w.heap.size + 1 + 1 + 1, 1, none⟩ = some (.int .i64 d2)) (exact hF1.2)
    (first
     | (go_at_call 26; (with_reducible refine (Q1.out _).mono ?_); rintro e wn ⟨rfl, hbn⟩; have hF1 := hF1.below hbn; have hO := hO.below hbn; have hB1 := hB1.trans (hbn.mono hB1.size); clear hbn)
     | (go_at_call 26; (with_reducible refine (Q2.out _).mono ?_); rintro e wn ⟨rfl, hbn⟩; have hF1 := hF1.below hbn; have hO := hO.below hbn; have hB1 := hB1.trans (hbn.mono hB1.size); clear hbn)
     | (go_at_call 24; (with_reducible refine (QS.out _).mono ?_); rintro e wn ⟨rfl, rfl⟩))
  obtain ⟨hz1, e1, e2, e3, e4, e5, e6, e7, e8⟩ := id hF1; obtain ⟨l1, l2, l3, l4⟩ := hF1.lts; obtain ⟨hy1, o1, o2, o3, o4⟩ := id hO
  go_wp2_with (first
    | (go_at_call 22; (with_reducible refine (rvalid_any _ _ _).mono ?_); rintro e wn ⟨rfl, hbn⟩; have hF1 := hF1.below hbn; have hO := hO.below hbn; have hB1 := hB1.trans (hbn.mono hB1.size); clear hbn; obtain ⟨hz1, e1, e2, e3, e4, e5, e6, e7, e8⟩ := id hF1; obtain ⟨l1, l2, l3, l4⟩ := hF1.lts; obtain ⟨hy1, o1, o2, o3, o4⟩ := id hO)
    | (go_at_call 27; (with_reducible refine (RI.out _).mono ?_); rintro e wn ⟨rfl, hbn⟩; have hF1 := hF1.below hbn; have hO := hO.below hbn; have hB1 := hB1.trans (hbn.mono hB1.size); clear hbn; obtain ⟨hz1, e1, e2, e3, e4, e5, e6, e7, e8⟩ := id hF1; obtain ⟨l1, l2, l3, l4⟩ := hF1.lts; obtain ⟨hy1, o1, o2, o3, o4⟩ := id hO))
  all_goals (go_returns; exact ⟨ret_bool (by simp), by assumption⟩)
end Go.Proofs.Ytcabnkclelgoeaa
