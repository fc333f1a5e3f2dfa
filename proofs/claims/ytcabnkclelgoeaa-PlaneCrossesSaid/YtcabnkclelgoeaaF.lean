/- Walk of plane.Cut. -/
import Derived.Test.YtcabnkclelgoeaaE
namespace Go.Proofs.Ytcabnkclelgoeaa
set_option linter.unusedSimpArgs false
set_option linter.unusedVariables false
open Go.ChangeShapes Go.WideShapes Go.ChangeAt Go.RowKit

/-- a fraction and an error number, as the machine returns them -/
abbrev fr (r : (Int × Int) × Int) : Value := .tuple #[.agg #[.int .i64 r.1.1, .int .i64 r.1.2], .int .i64 r.2]
theorem ret_fr {a b : (Int × Int) × Int} (h : a = b) : Ending.returned (fr a) = .returned (fr b) := by rw [h]

def makeR (n d : Int) : (Int × Int) × Int :=
  if 1073741824 < n / (Nat.gcd n.toNat d.toNat : Nat) ∨ 1073741824 < d / (Nat.gcd n.toNat d.toNat : Nat) then ((0, 0), 5)
  else ((n / (Nat.gcd n.toNat d.toNat : Nat), d / (Nat.gcd n.toNat d.toNat : Nat)), 0)

def cutR (num den : Int) : (Int × Int) × Int :=
  if den = 0 then ((0, 0), 16)
  else if den < 0 then (if -num < 0 ∨ -den < -num then ((0, 0), 2) else makeR (-num) (-den))
  else if num < 0 ∨ den < num then ((0, 0), 2) else makeR num den

theorem cutR_zero {num den : Int} (h : den = 0) : cutR num den = ((0, 0), 16) := by unfold cutR; rw [if_pos h]
theorem cutR_nr {num den : Int} (h : den < 0) (k : -num < 0 ∨ -den < -num) : cutR num den = ((0, 0), 2) := by
  unfold cutR; rw [if_neg (by omega), if_pos h, if_pos k]
theorem cutR_pr {num den : Int} (h : 0 < den) (k : num < 0 ∨ den < num) : cutR num den = ((0, 0), 2) := by
  unfold cutR; rw [if_neg (by omega), if_neg (by omega), if_pos k]
theorem cutR_n {num den : Int} (h : den < 0) (k : 0 ≤ -num) (l : -num ≤ -den) : cutR num den = makeR (-num) (-den) := by
  unfold cutR; rw [if_neg (by omega), if_pos h, if_neg (by omega)]
theorem cutR_p {num den : Int} (h : 0 < den) (k : 0 ≤ num) (l : num ≤ den) : cutR num den = makeR num den := by
  unfold cutR; rw [if_neg (by omega), if_neg (by omega), if_neg (by omega)]

theorem make_int (n d : Int) (w : World) (hn : 0 ≤ n) (hd : 0 < d) (hn2 : n ≤ 4611686018427387904) (hd2 : d ≤ 4611686018427387904) :
    Calls Try.prog 43 #[.int .i64 n, .int .i64 d] w fun e w' => e = .returned (fr (makeR n d)) ∧ Below w.heap.size w w' := by
  obtain ⟨n, rfl⟩ := Int.eq_ofNat_of_zero_le hn
  obtain ⟨d, rfl⟩ := Int.eq_ofNat_of_zero_le (Int.le_of_lt hd)
  have c1 : ((n / Nat.gcd n d : Nat) : Int) = (n : Int) / (Nat.gcd n d : Nat) := Int.natCast_ediv _ _
  have c2 : ((d / Nat.gcd n d : Nat) : Int) = (d : Int) / (Nat.gcd n d : Nat) := Int.natCast_ediv _ _
  by_cases h1 : 1073741824 < n / Nat.gcd n d
  · exact (make_big1 n d w (by omega) (by omega) (by omega) h1).mono fun e w' ⟨he, h⟩ => ⟨by rw [he]; unfold makeR; rw [Int.toNat_natCast, Int.toNat_natCast, if_pos (by omega)], h⟩
  · by_cases h2 : 1073741824 < d / Nat.gcd n d
    · exact (make_big2 n d w (by omega) (by omega) (by omega) (by omega) h2).mono fun e w' ⟨he, h⟩ => ⟨by rw [he]; unfold makeR; rw [Int.toNat_natCast, Int.toNat_natCast, if_pos (by omega)], h⟩
    · exact (make_ok n d w (by omega) (by omega) (by omega) (by omega) (by omega)).mono fun e w' ⟨he, h⟩ => ⟨by rw [he]; unfold makeR; rw [Int.toNat_natCast, Int.toNat_natCast, if_neg (by omega), c1, c2], h⟩

theorem cut_arg (a1 a2 b1 b2 c1 c2 d1 d2 : Int) (w : World) (h : [(a1, a2), (b1, b2), (c1, c2), (d1, d2)].all okP = false) :
    Calls Try.prog 11 #[pt a1 a2, pt b1 b2, pt c1 c2, pt d1 d2] w fun e w' => e = .returned (fr ((0, 0), 1)) ∧ Below w.heap.size w w' := by
  have H := Lib.hid h
  clear h
  go_enter Try.func11, Try.ntmps11
  go_wp2_with fail
  refine (all_any _ _ _ _ [(a1, a2), (b1, b2), (c1, c2), (d1, d2)] _ rfl (by simp [maxLen]) (by simp) (ptsAt4 _ _ _ _ _ _ _ _ _ _ _ (by simp))).mono ?_
  rw [H.out]
  rintro e w1 ⟨rfl, hb1⟩
  have hO1 := ((Out.start _ 29 0 0 (w.heap.size + 1 + 1 + 1 + 1) (by simp)).alloc _).below hb1
  obtain ⟨hy1, o1, o2, o3, o4⟩ := id hO1
  have hB1 := (show Below w.heap.size w _ from by (repeat' (first | (with_reducible exact Below.refl _ _) | (with_reducible assumption) | (with_reducible refine Below.alloc ?_ ?_ _) | (with_reducible refine Below.drew ?_) | (with_reducible refine below_drewN ?_ _) | (with_reducible refine Below.setCell ?_ ?_ _) | (exact Below.size (by with_reducible assumption)) | go_size))).trans (hb1.mono (by simp; omega))
  go_wp2
  refine bodyPost_ret (v := fr ((0, 0), 1)) (by simp [results, Try.results11, go_sem, o1, o2, o3, o4]) rfl ⟨rfl, by (repeat' (first | (with_reducible exact Below.refl _ _) | (with_reducible assumption) | (with_reducible refine Below.alloc ?_ ?_ _) | (with_reducible refine Below.drew ?_) | (with_reducible refine below_drewN ?_ _) | (with_reducible refine Below.setCell ?_ ?_ _) | (exact Below.size (by with_reducible assumption)) | go_size))⟩
theorem cut_shape (a1 a2 b1 b2 c1 c2 d1 d2 : Int) (w : World) (h : [(a1, a2), (b1, b2), (c1, c2), (d1, d2)].all okP = true) (hs : (a1 = b1 ∧ a2 = b2) ∨ (c1 = d1 ∧ c2 = d2)) :
    Calls Try.prog 11 #[pt a1 a2, pt b1 b2, pt c1 c2, pt d1 d2] w fun e w' => e = .returned (fr ((0, 0), 25)) ∧ Below w.heap.size w w' := by
  have H := Lib.hid h
  clear h
  go_enter Try.func11, Try.ntmps11
  go_wp2_with fail
  refine (all_any _ _ _ _ [(a1, a2), (b1, b2), (c1, c2), (d1, d2)] _ rfl (by simp [maxLen]) (by simp) (ptsAt4 _ _ _ _ _ _ _ _ _ _ _ (by simp))).mono ?_
  rw [H.out]
  rintro e w1 ⟨rfl, hb1⟩
  have hF1 := (((Four.start w 23 a1 a2 b1 b2 c1 c2 d1 d2).alloc _).alloc _).below hb1
  have hO1 := ((Out.start _ 29 0 0 (w.heap.size + 1 + 1 + 1 + 1) (by simp)).alloc _).below hb1
  have hB1 := (show Below w.heap.size w _ from by (repeat' (first | (with_reducible exact Below.refl _ _) | (with_reducible assumption) | (with_reducible refine Below.alloc ?_ ?_ _) | (with_reducible refine Below.drew ?_) | (with_reducible refine below_drewN ?_ _) | (with_reducible refine Below.setCell ?_ ?_ _) | (exact Below.size (by with_reducible assumption)) | go_size))).trans (hb1.mono (by simp; omega))
  obtain ⟨hz1, e1, e2, e3, e4, e5, e6, e7, e8⟩ := id hF1
  obtain ⟨hy1, o1, o2, o3, o4⟩ := id hO1
  clear hb1
  go_wp2
  all_goals exact bodyPost_ret (v := fr ((0, 0), 25)) (by simp [results, Try.results11, go_sem, o1, o2, o3, o4]) rfl ⟨rfl, by (repeat' (first | (with_reducible exact Below.refl _ _) | (with_reducible assumption) | (with_reducible refine Below.alloc ?_ ?_ _) | (with_reducible refine Below.drew ?_) | (with_reducible refine below_drewN ?_ _) | (with_reducible refine Below.setCell ?_ ?_ _) | (exact Below.size (by with_reducible assumption)) | go_size))⟩

set_option maxHeartbeats 400000 in
theorem cut_ok (a1 a2 b1 b2 c1 c2 d1 d2 : Int) (w : World) (ha : okP (a1, a2) = true) (hb : okP (b1, b2) = true) (hc : okP (c1, c2) = true) (hd : okP (d1, d2) = true) (hab : ¬ (a1 = b1 ∧ a2 = b2)) (hcd : ¬ (c1 = d1 ∧ c2 = d2)) :
    Calls Try.prog 11 #[pt a1 a2, pt b1 b2, pt c1 c2, pt d1 d2] w fun e w' => e = .returned (fr (cutR (turnZ (c1, c2) (d1, d2) (a1, a2)) (turnZ (c1, c2) (d1, d2) (a1, a2) - turnZ (c1, c2) (d1, d2) (b1, b2)))) ∧ Below w.heap.size w w' := by
  have H := Lib.hid (show [(a1, a2), (b1, b2), (c1, c2), (d1, d2)].all okP = true by simp [ha, hb, hc, hd])
  have h1 : ∀ W, (binOp .eql 23 (.agg #[.int .i64 a1, .int .i64 a2]) (.agg #[.int .i64 b1, .int .i64 b2])).run Try.prog W = .ok (.bool false) W := fun W => by rw [run_eqpt]; simp only [hab]; rfl
  have h2 : ∀ W, (binOp .eql 23 (.agg #[.int .i64 c1, .int .i64 c2]) (.agg #[.int .i64 d1, .int .i64 d2])).run Try.prog W = .ok (.bool false) W := fun W => by rw [run_eqpt]; simp only [hcd]; rfl
  clear hab hcd
  have T1 := Lib.hid (fun W => turn_ok c1 c2 d1 d2 a1 a2 W hc hd ha)
  have T2 := Lib.hid (fun W => turn_ok c1 c2 d1 d2 b1 b2 W hc hd hb)
  have g1 := turnZ_bd hc hd ha
  have g2 := turnZ_bd hc hd hb
  clear ha hb hc hd
  generalize turnZ (c1, c2) (d1, d2) (a1, a2) = x at *
  generalize turnZ (c1, c2) (d1, d2) (b1, b2) = y at *
  obtain ⟨g1, g3⟩ := g1
  obtain ⟨g2, g4⟩ := g2
  go_enter Try.func11, Try.ntmps11
  go_wp2_with fail
  refine (all_any _ _ _ _ [(a1, a2), (b1, b2), (c1, c2), (d1, d2)] _ rfl (by simp [maxLen]) (by simp) (ptsAt4 _ _ _ _ _ _ _ _ _ _ _ (by simp))).mono ?_
  rw [H.out]
  rintro e w1 ⟨rfl, hb1⟩
  have hF1 := (((Four.start w 23 a1 a2 b1 b2 c1 c2 d1 d2).alloc _).alloc _).below hb1
  have hO1 := ((Out.start _ 29 0 0 (w.heap.size + 1 + 1 + 1 + 1) (by simp)).alloc _).below hb1
  have hB1 := (show Below w.heap.size w _ from by (repeat' (first | (with_reducible exact Below.refl _ _) | (with_reducible assumption) | (with_reducible refine Below.alloc ?_ ?_ _) | (with_reducible refine Below.drew ?_) | (with_reducible refine below_drewN ?_ _) | (with_reducible refine Below.setCell ?_ ?_ _) | (exact Below.size (by with_reducible assumption)) | go_size))).trans (hb1.mono (by simp; omega))
  obtain ⟨hz1, e1, e2, e3, e4, e5, e6, e7, e8⟩ := id hF1
  obtain ⟨hy1, o1, o2, o3, o4⟩ := id hO1
  clear hb1
  go_wp2_with fail
  refine (T1.out _).mono ?_
  rintro e w2 ⟨rfl, hb2⟩
  have hF2 := hF1.below hb2
  have hO2 := hO1.below hb2
  have hB2 := hB1.trans (hb2.mono hB1.size)
  clear e1 e2 e3 e4 e5 e6 e7 e8 hF1 hb2 hB1 hz1 hy1 o1 o2 o3 o4 hO1
  obtain ⟨hz2, e1, e2, e3, e4, e5, e6, e7, e8⟩ := id hF2
  go_wp2_with fail
  refine (T2.out _).mono ?_
  rintro e w3 ⟨rfl, hb3⟩
  have hO3 := hO2.below hb3
  have hB3 := hB2.trans (hb3.mono hB2.size)
  clear e1 e2 e3 e4 e5 e6 e7 e8 hF2 hb3 hB2 hz2 hO2
  obtain ⟨hy1, o1, o2, o3, o4⟩ := id hO3
  go_wp2_with (go_at_call 43; (with_reducible refine (make_int _ _ _ (by omega) (by first | omega | (have hq := beq_eq_false_iff_ne.1 (show (x - y == 0) = false by assumption); omega)) (by omega) (by omega)).mono ?_); rintro e wn ⟨rfl, hbn⟩; have hO3 := hO3.below hbn; have hB3 := hB3.trans (hbn.mono hB3.size); obtain ⟨hy1, o1, o2, o3, o4⟩ := id hO3; clear hbn)
  all_goals first
    | exact bodyPost_ret (v := fr ((0, 0), 16)) (by simp [results, Try.results11, go_sem, o1, o2, o3, o4]) rfl ⟨ret_fr (cutR_zero (by simpa using (show (x - y == 0) = true by assumption))).symm, by (repeat' (first | (with_reducible exact Below.refl _ _) | (with_reducible assumption) | (with_reducible refine Below.alloc ?_ ?_ _) | (with_reducible refine Below.drew ?_) | (with_reducible refine below_drewN ?_ _) | (with_reducible refine Below.setCell ?_ ?_ _) | (exact Below.size (by with_reducible assumption)) | go_size))⟩
    | exact bodyPost_ret (v := fr ((0, 0), 2)) (by simp [results, Try.results11, go_sem, o1, o2, o3, o4]) rfl ⟨ret_fr (cutR_nr (by omega) (by omega)).symm, by (repeat' (first | (with_reducible exact Below.refl _ _) | (with_reducible assumption) | (with_reducible refine Below.alloc ?_ ?_ _) | (with_reducible refine Below.drew ?_) | (with_reducible refine below_drewN ?_ _) | (with_reducible refine Below.setCell ?_ ?_ _) | (exact Below.size (by with_reducible assumption)) | go_size))⟩
    | exact bodyPost_ret (v := fr ((0, 0), 2)) (by simp [results, Try.results11, go_sem, o1, o2, o3, o4]) rfl ⟨ret_fr (cutR_pr (by have hq := beq_eq_false_iff_ne.1 (show (x - y == 0) = false by assumption); omega) (by omega)).symm, by (repeat' (first | (with_reducible exact Below.refl _ _) | (with_reducible assumption) | (with_reducible refine Below.alloc ?_ ?_ _) | (with_reducible refine Below.drew ?_) | (with_reducible refine below_drewN ?_ _) | (with_reducible refine Below.setCell ?_ ?_ _) | (exact Below.size (by with_reducible assumption)) | go_size))⟩
    | exact bodyPost_ret (v := fr (makeR (-x) (-(x - y)))) (by simp [results, Try.results11, go_sem, o1, o2, o3, o4]) rfl ⟨ret_fr (cutR_n (by omega) (by omega) (by omega)).symm, by (repeat' (first | (with_reducible exact Below.refl _ _) | (with_reducible assumption) | (with_reducible refine Below.alloc ?_ ?_ _) | (with_reducible refine Below.drew ?_) | (with_reducible refine below_drewN ?_ _) | (with_reducible refine Below.setCell ?_ ?_ _) | (exact Below.size (by with_reducible assumption)) | go_size))⟩
    | exact bodyPost_ret (v := fr (makeR x (x - y))) (by simp [results, Try.results11, go_sem, o1, o2, o3, o4]) rfl ⟨ret_fr (cutR_p (by have hq := beq_eq_false_iff_ne.1 (show (x - y == 0) = false by assumption); omega) (by omega) (by omega)).symm, by (repeat' (first | (with_reducible exact Below.refl _ _) | (with_reducible assumption) | (with_reducible refine Below.alloc ?_ ?_ _) | (with_reducible refine Below.drew ?_) | (with_reducible refine below_drewN ?_ _) | (with_reducible refine Below.setCell ?_ ?_ _) | (exact Below.size (by with_reducible assumption)) | go_size))⟩
end Go.Proofs.Ytcabnkclelgoeaa
