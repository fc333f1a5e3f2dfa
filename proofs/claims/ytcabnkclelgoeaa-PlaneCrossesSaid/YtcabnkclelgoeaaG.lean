/- Walks of the reference: All, between, On, Cross. -/
import Derived.Test.YtcabnkclelgoeaaF
import Derived.Deep.RegionHeld3
import Derived.Deep.DrawnRows
namespace Go.Proofs.Ytcabnkclelgoeaa
set_option linter.unusedSimpArgs false
set_option linter.unusedVariables false
attribute [local go_sem ↓] Go.wp_at_zero Go.wp_at_succ
open Go.ChangeShapes Go.WideShapes Go.ChangeAt Go.RowKit

set_option maxHeartbeats 400000 in
theorem rall_any (b off n cap : Nat) (l : List (Int × Int)) (w : World) (hn : n = l.length) (hm : n ≤ maxLen) (hbw : b < w.heap.size) (hp : PtsAt w b off l) :
    Calls Try.prog 12 #[.slice (some ⟨b, off, none⟩) n cap] w fun e w' => e = .returned (.bool (l.all okP)) ∧ Below w.heap.size w w' := by
  have Hn := Lib.hid hn
  have Hp := Lib.hid hp
  unfold maxLen at hm
  clear hn hp
  go_enter Try.func12, Try.ntmps12
  go_wp2
  go_loopw [3] (fun v8 wr => ∃ k : Nat, k ≤ n ∧ v8 = .int .i64 k ∧ Below w.heap.size w wr ∧ (∀ i, i < k → okP (l.getD i (0, 0)) = true)) (fun v8 _ => n - (intOf v8).toNat)
  case atStart => exact ⟨0, by omega, rfl, Below.refl _ _, by omega⟩
  case round =>
    obtain ⟨k, hk, rfl, hb, hall⟩ := hrel
    have Hall := Lib.hid hall
    clear hall
    by_cases hlt : k < n
    · have hpk := (Hp.out.below hb hbw) k (by rw [← Hn.out]; exact hlt)
      obtain ⟨hc1, hc2⟩ := hpk
      have Hq : ∃ q, Hid (l.getD k (0, 0) = q) := ⟨_, Lib.hid rfl⟩
      obtain ⟨q, Hq⟩ := Hq
      rw [Hq.out] at hc1 hc2
      have hs := hb.size
      go_wp2_with (go_at_call 22; refine (rvalid_any _ _ _).mono ?_; rintro e w1 ⟨rfl, hb1⟩)
      · go_returns
        have hq : (!okP (q.1, q.2)) = true := by assumption
        refine ⟨ret_bool ?_, hb.trans (hb1.mono hs)⟩
        exact (firstBad_some l k (by rw [← Hn.out]; exact hlt) Hall.out (by rw [Hq.out]; simpa using hq)).2.symm
      · have hq : (!okP (q.1, q.2)) = false := by assumption
        go_roundw
        case rel =>
          refine ⟨k + 1, by omega, by go_num, hb.trans (hb1.mono hs), fun i hi => ?_⟩
          by_cases e : i = k
          · rw [e, Hq.out]; simpa using hq
          · exact Hall.out i (by omega)
        case measure => simp [intOf]; omega
    · go_wp2
      go_returns
      exact ⟨ret_bool (firstBad_none l (fun i hi => Hall.out i (by rw [← Hn.out] at hi; omega))).2.symm, hb⟩
theorem between_any (n a b : Int) (w : World) :
    Calls Try.prog 64 #[.int .i64 n, .int .i64 a, .int .i64 b] w fun e w' => e = .returned (.bool (decide (min a b ≤ n ∧ n ≤ max a b))) ∧ w = w' := by
  go_enter Try.func64, Try.ntmps64
  go_wp2
  all_goals (go_returns; exact ⟨ret_bool (by apply bool_eq; simp; omega), rfl⟩)
theorem ron_ok (p1 p2 a1 a2 b1 b2 : Int) (w : World) (hp : okP (p1, p2) = true) (ha : okP (a1, a2) = true) (hb : okP (b1, b2) = true) :
    Calls Try.prog 44 #[pt p1 p2, pt a1 a2, pt b1 b2] w fun e w' => e = .returned (.bool (onB (a1, a2) (b1, b2) (p1, p2))) ∧ Below w.heap.size w w' := by
  have H := Lib.hid (fun W => rturn_ok a1 a2 b1 b2 p1 p2 W ha hb hp)
  clear ha hb hp
  go_enter Try.func44, Try.ntmps44
  go_wp2_with fail
  refine (H.out _).mono ?_
  rintro e w1 ⟨rfl, hb1⟩
  have hF1 := (Three.start w 23 p1 p2 a1 a2 b1 b2).below hb1
  have hB1 := (show Below w.heap.size w _ from by (repeat' (first | (with_reducible exact Below.refl _ _) | (with_reducible assumption) | (with_reducible refine Below.alloc ?_ ?_ _) | (with_reducible refine Below.drew ?_) | (with_reducible refine below_drewN ?_ _) | (with_reducible refine Below.setCell ?_ ?_ _) | (exact Below.size (by with_reducible assumption)) | go_size))).trans (hb1.mono (by simp; omega))
  obtain ⟨hz1, e1, e2, e3, e4, e5, e6⟩ := id hF1
  clear hb1
  go_wp2_with (go_at_call 64; (with_reducible refine (between_any _ _ _ _).mono ?_); rintro e wn ⟨rfl, rfl⟩)
  all_goals (go_returns; exact ⟨ret_bool (by apply bool_eq; simp [onB]; omega), by assumption⟩)

def rcrossZ (a b c d : Int × Int) : Int :=
  if cmpZ (turnZ a b c) 0 * cmpZ (turnZ a b d) 0 < 0 ∧ cmpZ (turnZ c d a) 0 * cmpZ (turnZ c d b) 0 < 0 then 2
  else if onB c d a = true ∨ onB c d b = true ∨ onB a b c = true ∨ onB a b d = true then 1 else 0

theorem cmpZ_bd (a b : Int) : -1 ≤ cmpZ a b ∧ cmpZ a b ≤ 1 := by
  rcases cmpZ_cases a b with h | h | h <;> omega

set_option maxHeartbeats 1000000 in
theorem rcross_ok (a1 a2 b1 b2 c1 c2 d1 d2 : Int) (w : World) (ha : okP (a1, a2) = true) (hb : okP (b1, b2) = true) (hc : okP (c1, c2) = true) (hd : okP (d1, d2) = true) :
    Calls Try.prog 14 #[pt a1 a2, pt b1 b2, pt c1 c2, pt d1 d2] w fun e w' => e = .returned (.int .i64 (rcrossZ (a1, a2) (b1, b2) (c1, c2) (d1, d2))) ∧ Below w.heap.size w w' := by
  have T1 := Lib.hid (fun W => rturn_ok a1 a2 b1 b2 c1 c2 W ha hb hc)
  have T2 := Lib.hid (fun W => rturn_ok a1 a2 b1 b2 d1 d2 W ha hb hd)
  have T3 := Lib.hid (fun W => rturn_ok c1 c2 d1 d2 a1 a2 W hc hd ha)
  have T4 := Lib.hid (fun W => rturn_ok c1 c2 d1 d2 b1 b2 W hc hd hb)
  have HA := Lib.hid ha
  have HB := Lib.hid hb
  have HC := Lib.hid hc
  have HD := Lib.hid hd
  clear ha hb hc hd
  go_enter Try.func14, Try.ntmps14
  go_wp2
  obtain ⟨W, hW, hB1, hsW, e⟩ := boxes4 w 23 a1 a2 b1 b2 c1 c2 d1 d2
  clear e
  have hF1 := Four.start w 23 a1 a2 b1 b2 c1 c2 d1 d2
  rw [← hW] at hF1 ⊢
  clear hW hsW
  have hF1 := hF1.drew
  have hB1 := hB1.drew
  go_region_held3 (fun w' => w'.cell? ⟨w.heap.size, 0, none⟩ = some (.int .i64 a1) ∧ w'.cell? ⟨w.heap.size, 1, none⟩ = some (.int .i64 a2) ∧ w'.cell? ⟨w.heap.size + 1, 0, none⟩ = some (.int .i64 b1) ∧ w'.cell? ⟨w.heap.size + 1, 1, none⟩ = some (.int .i64 b2) ∧ w'.cell? ⟨w.heap.size + 1 + 1, 0, none⟩ = some (.int .i64 c1) ∧ w'.cell? ⟨w.heap.size + 1 + 1, 1, none⟩ = some (.int .i64 c2) ∧ w'.cell? ⟨w.heap.size + 1 + 1 + 1, 0, none⟩ = some (.int .i64 d1) ∧ w'.cell? ⟨w.heap.size + 1 + 1 + 1, 1, none⟩ = some (.int .i64 d2)) (exact hF1.2)
    (first
     | (go_at_call 25; (with_reducible refine (T1.out _).mono ?_); rintro e wn ⟨rfl, hbn⟩; have hF1 := hF1.below hbn; have hB1 := hB1.trans (hbn.mono hB1.size); clear hbn)
     | (go_at_call 25; (with_reducible refine (T2.out _).mono ?_); rintro e wn ⟨rfl, hbn⟩; have hF1 := hF1.below hbn; have hB1 := hB1.trans (hbn.mono hB1.size); clear hbn)
     | (go_at_call 24; (with_reducible refine (sign_any _ _).mono ?_); rintro e wn ⟨rfl, rfl⟩))
  go_wp2
  have hF1 := hF1.drew
  have hB1 := hB1.drew
  go_region_held3 (fun w' => w'.cell? ⟨w.heap.size, 0, none⟩ = some (.int .i64 a1) ∧ w'.cell? ⟨w.heap.size, 1, none⟩ = some (.int .i64 a2) ∧ w'.cell? ⟨w.heap.size + 1, 0, none⟩ = some (.int .i64 b1) ∧ w'.cell? ⟨w.heap.size + 1, 1, none⟩ = some (.int .i64 b2) ∧ w'.cell? ⟨w.heap.size + 1 + 1, 0, none⟩ = some (.int .i64 c1) ∧ w'.cell? ⟨w.heap.size + 1 + 1, 1, none⟩ = some (.int .i64 c2) ∧ w'.cell? ⟨w.heap.size + 1 + 1 + 1, 0, none⟩ = some (.int .i64 d1) ∧ w'.cell? ⟨w.heap.size + 1 + 1 + 1, 1, none⟩ = some (.int .i64 d2)) (exact hF1.2)
    (first
     | (go_at_call 25; (with_reducible refine (T3.out _).mono ?_); rintro e wn ⟨rfl, hbn⟩; have hF1 := hF1.below hbn; have hB1 := hB1.trans (hbn.mono hB1.size); clear hbn)
     | (go_at_call 25; (with_reducible refine (T4.out _).mono ?_); rintro e wn ⟨rfl, hbn⟩; have hF1 := hF1.below hbn; have hB1 := hB1.trans (hbn.mono hB1.size); clear hbn)
     | (go_at_call 24; (with_reducible refine (sign_any _ _).mono ?_); rintro e wn ⟨rfl, rfl⟩))
  have m1 := mul_bd _ _ 1 1 (cmpZ_bd (turnZ (a1, a2) (b1, b2) (c1, c2)) 0) (cmpZ_bd (turnZ (a1, a2) (b1, b2) (d1, d2)) 0)
  have m2 := mul_bd _ _ 1 1 (cmpZ_bd (turnZ (c1, c2) (d1, d2) (a1, a2)) 0) (cmpZ_bd (turnZ (c1, c2) (d1, d2) (b1, b2)) 0)
  have HV : Hid (rcrossZ (a1, a2) (b1, b2) (c1, c2) (d1, d2) = (if cmpZ (turnZ (a1, a2) (b1, b2) (c1, c2)) 0 * cmpZ (turnZ (a1, a2) (b1, b2) (d1, d2)) 0 < 0 ∧ cmpZ (turnZ (c1, c2) (d1, d2) (a1, a2)) 0 * cmpZ (turnZ (c1, c2) (d1, d2) (b1, b2)) 0 < 0 then 2 else if onB (c1, c2) (d1, d2) (a1, a2) = true ∨ onB (c1, c2) (d1, d2) (b1, b2) = true ∨ onB (a1, a2) (b1, b2) (c1, c2) = true ∨ onB (a1, a2) (b1, b2) (d1, d2) = true then 1 else 0)) := Lib.hid rfl
  generalize cmpZ (turnZ (a1, a2) (b1, b2) (c1, c2)) 0 = s1 at m1 HV ⊢
  generalize cmpZ (turnZ (a1, a2) (b1, b2) (d1, d2)) 0 = s2 at m1 HV ⊢
  generalize cmpZ (turnZ (c1, c2) (d1, d2) (a1, a2)) 0 = s3 at m2 HV ⊢
  generalize cmpZ (turnZ (c1, c2) (d1, d2) (b1, b2)) 0 = s4 at m2 HV ⊢
  have m3 : -1 ≤ s1 * s2 := by omega
  have m4 : s1 * s2 ≤ 1 := by omega
  have m5 : -1 ≤ s3 * s4 := by omega
  have m6 : s3 * s4 ≤ 1 := by omega
  clear m1 m2 T1 T2 T3 T4
  obtain ⟨hz1, e1, e2, e3, e4, e5, e6, e7, e8⟩ := id hF1; obtain ⟨l1, l2, l3, l4⟩ := hF1.lts
  go_wp2_with (go_at_call 44; (with_reducible refine (ron_ok _ _ _ _ _ _ _ (by first | exact HA.out | exact HB.out | exact HC.out | exact HD.out) (by first | exact HA.out | exact HC.out) (by first | exact HB.out | exact HD.out)).mono ?_); rintro e wn ⟨rfl, hbn⟩; have hF1 := hF1.below hbn; have hB1 := hB1.trans (hbn.mono hB1.size); clear hbn; obtain ⟨hz1, e1, e2, e3, e4, e5, e6, e7, e8⟩ := id hF1; obtain ⟨l1, l2, l3, l4⟩ := hF1.lts)
  all_goals (go_returns; exact ⟨ret_int (by rw [HV.out]; first | rw [if_pos ⟨by assumption, by assumption⟩] | (rw [if_neg (by omega)]; simp [*])), by assumption⟩)
end Go.Proofs.Ytcabnkclelgoeaa
