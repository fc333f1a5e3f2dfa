/- Walks of Distance, polygon, Twice, Orient, Near. -/
import Derived.Test.YtcabnkclelgoeaaL
namespace Go.Proofs.Ytcabnkclelgoeaa
set_option linter.unusedSimpArgs false
set_option linter.unusedVariables false
open Go.ChangeShapes Go.WideShapes Go.ChangeAt Go.RowKit

theorem dist_arg (a1 a2 b1 b2 : Int) (w : World) (h : [(a1, a2), (b1, b2)].all okP = false) :
    Calls Try.prog 21 #[pt a1 a2, pt b1 b2] w fun e w' => e = .returned (fr ((0, 0), 1)) ∧ Below w.heap.size w w' := by
  have H := Lib.hid h
  clear h
  go_enter Try.func21, Try.ntmps21
  go_wp2_with fail
  refine (all_any _ _ _ _ [(a1, a2), (b1, b2)] _ rfl (by simp [maxLen]) (by simp) (ptsAt2 _ _ _ _ _ _ _ (by simp))).mono ?_
  rw [H.out]
  rintro e w1 ⟨rfl, hb1⟩
  have hO1 := ((Out.start _ 44 0 0 (w.heap.size + 1 + 1) (by simp)).alloc _).below hb1
  obtain ⟨hy1, o1, o2, o3, o4⟩ := id hO1
  have hB1 := (show Below w.heap.size w _ from by (repeat' (first | (with_reducible exact Below.refl _ _) | (with_reducible assumption) | (with_reducible refine Below.alloc ?_ ?_ _) | (with_reducible refine Below.drew ?_) | (with_reducible refine below_drewN ?_ _) | (with_reducible refine Below.setCell ?_ ?_ _) | (exact Below.size (by with_reducible assumption)) | go_size))).trans (hb1.mono (by simp; omega))
  go_wp2
  exact bodyPost_ret (v := fr ((0, 0), 1)) (by simp [results, Try.results21, go_sem, o1, o2]) rfl ⟨rfl, by (repeat' (first | (with_reducible exact Below.refl _ _) | (with_reducible assumption) | (with_reducible refine Below.alloc ?_ ?_ _) | (with_reducible refine Below.drew ?_) | (with_reducible refine below_drewN ?_ _) | (with_reducible refine Below.setCell ?_ ?_ _) | (exact Below.size (by with_reducible assumption)) | go_size))⟩

theorem dist_ok (a1 a2 b1 b2 : Int) (r : Nat) (w : World) (ha : okP (a1, a2) = true) (hb : okP (b1, b2) = true) (h1 : r * r ≤ (sqZ (a1, a2) (b1, b2)).toNat) (h2 : (sqZ (a1, a2) (b1, b2)).toNat < (r + 1) * (r + 1)) :
    Calls Try.prog 21 #[pt a1 a2, pt b1 b2] w fun e w' => e = .returned (fr (((r : Int), if (r : Int) * r < sqZ (a1, a2) (b1, b2) then (r : Int) + 1 else r), 0)) ∧ Below w.heap.size w w' := by
  have H := Lib.hid (show [(a1, a2), (b1, b2)].all okP = true by simp [ha, hb])
  have HS := Lib.hid (fun W => square_ok a1 a2 b1 b2 W ha hb)
  obtain ⟨n, hn⟩ := Int.eq_ofNat_of_zero_le (sqZ_bd ha hb).1
  have hn2 : n ≤ 2251799813685248 := by have := (sqZ_bd ha hb).2; omega
  rw [hn] at HS h1 h2 ⊢
  simp only [Int.toNat_natCast] at h1 h2
  have hr0 : r ≤ 2251799813685248 := by
    have : r ≤ r * r := Nat.le_mul_self r
    omega
  have hrr : ((r * r : Nat) : Int) = (r : Int) * r := Int.natCast_mul _ _
  have hr1 : (0 : Int) ≤ (r : Int) * r := by rw [← hrr]; omega
  have hr3 : (r : Int) * r ≤ 2251799813685248 := by rw [← hrr]; omega
  have HO := Lib.hid (fun W => of_any n W (by omega))
  have HR := Lib.hid (fun W => root_any n r W (by omega) h1 h2)
  clear ha hb h1 h2 hn hrr
  go_enter Try.func21, Try.ntmps21
  go_wp2_with fail
  refine (all_any _ _ _ _ [(a1, a2), (b1, b2)] _ rfl (by simp [maxLen]) (by simp) (ptsAt2 _ _ _ _ _ _ _ (by simp))).mono ?_
  rw [H.out]
  rintro e w1 ⟨rfl, hb1⟩
  have hF1 := (((Two.start w 23 a1 a2 b1 b2).alloc _).alloc _).below hb1
  have hO := ((Out.start _ 44 0 0 (w.heap.size + 1 + 1) (by simp)).alloc _).below hb1
  have hB1 := (show Below w.heap.size w _ from by (repeat' (first | (with_reducible exact Below.refl _ _) | (with_reducible assumption) | (with_reducible refine Below.alloc ?_ ?_ _) | (with_reducible refine Below.drew ?_) | (with_reducible refine below_drewN ?_ _) | (with_reducible refine Below.setCell ?_ ?_ _) | (exact Below.size (by with_reducible assumption)) | go_size))).trans (hb1.mono (by simp; omega))
  clear hb1
  obtain ⟨hz1, e1, e2, e3, e4⟩ := id hF1; obtain ⟨l1, l2⟩ := hF1.lts
  go_wp2_with fail
  refine (HS.out _).mono ?_
  rintro e wn ⟨rfl, hbn⟩
  have hO := hO.below hbn
  have hF1 := hF1.below hbn; have hB1 := hB1.trans (hbn.mono hB1.size); clear hbn
  go_wp2_with fail
  refine (HO.out _).mono ?_
  rintro e wn ⟨rfl, hbn⟩
  have hO := hO.below hbn
  have hF1 := hF1.below hbn; have hB1 := hB1.trans (hbn.mono hB1.size); clear hbn
  go_wp2_with fail
  refine (HR.out _).mono ?_
  rintro e wn ⟨rfl, hbn⟩
  have hO := hO.below hbn
  have hF1 := hF1.below hbn; have hB1 := hB1.trans (hbn.mono hB1.size); clear hbn
  obtain ⟨hy1, o1, o2, o3, o4⟩ := id hO
  by_cases hc : (r : Int) * r < n
  · go_wp2
    exact bodyPost_ret (v := fr (((r : Int), (r : Int) + 1), 0)) (by simp [results, Try.results21, go_sem, o1, o2, o3, o4, hy1]) rfl ⟨ret_fr (by first | rfl | rw [if_pos (by omega)]), by (repeat' (first | (with_reducible exact Below.refl _ _) | (with_reducible assumption) | (with_reducible refine Below.alloc ?_ ?_ _) | (with_reducible refine Below.drew ?_) | (with_reducible refine below_drewN ?_ _) | (with_reducible refine Below.setCell ?_ ?_ _) | (exact Below.size (by with_reducible assumption)) | go_size))⟩
  · go_wp2
    exact bodyPost_ret (v := fr (((r : Int), (r : Int)), 0)) (by simp [results, Try.results21, go_sem, o1, o2, o3, o4, hy1]) rfl ⟨ret_fr (by first | rfl | rw [if_neg (by omega)]), by (repeat' (first | (with_reducible exact Below.refl _ _) | (with_reducible assumption) | (with_reducible refine Below.alloc ?_ ?_ _) | (with_reducible refine Below.drew ?_) | (with_reducible refine below_drewN ?_ _) | (with_reducible refine Below.setCell ?_ ?_ _) | (exact Below.size (by with_reducible assumption)) | go_size))⟩

/-- the error of a list of points as a polygon -/
def polyE (l : List (Int × Int)) : Int := if l.all okP = false then 1 else if l.length < 3 then 3 else if 1000 < l.length then 4 else 0

theorem poly_any (b off n cap : Nat) (l : List (Int × Int)) (w : World) (hn : n = l.length) (hm : n ≤ maxLen) (hbw : b < w.heap.size) (hp : PtsAt w b off l) :
    Calls Try.prog 50 #[.slice (some ⟨b, off, none⟩) n cap] w fun e w' => e = .returned (.int .i64 (polyE l)) ∧ Below w.heap.size w w' := by
  have H := Lib.hid (all_any b off n cap l w hn hm hbw hp)
  have HE : Hid (polyE l = if l.all okP = false then 1 else if n < 3 then 3 else if 1000 < n then 4 else 0) := Lib.hid (by rw [hn]; rfl)
  unfold maxLen at hm
  clear hn hp
  generalize l.all okP = q at H HE
  go_enter Try.func50, Try.ntmps50
  go_wp2_with fail
  refine (H.out).mono ?_
  rintro e wn ⟨rfl, hbn⟩
  go_wp2
  all_goals (go_returns; exact ⟨ret_int (by rw [HE.out]; first | (rw [if_pos (by simpa using (show (!q) = true by assumption))]; done) | (rw [if_neg (by simp_all)]; repeat' split; all_goals omega)), hbn⟩)

/-- twice the area, of the first k points and one more -/
def areaTo (l : List (Int × Int)) : Nat → Int
  | 0 => 0
  | k + 1 => areaTo l k + turnZ (l.getD 0 (0, 0)) (l.getD (k + 1) (0, 0)) (l.getD (k + 2) (0, 0))
def areaZ (l : List (Int × Int)) : Int := areaTo l (l.length - 2)

theorem okP_getD {l : List (Int × Int)} (h : l.all okP = true) (i : Nat) (hi : i < l.length) : okP (l.getD i (0, 0)) = true := by
  have e : l.getD i (0, 0) = l[i] := by simp [List.getD, hi]
  rw [e]
  exact List.all_eq_true.1 h _ (List.getElem_mem hi)

theorem areaTo_bd {l : List (Int × Int)} (h : l.all okP = true) (k : Nat) (hk : k + 2 ≤ l.length ∨ k = 0) (hk2 : k ≤ 1000) : -2251799813685248 * (k : Int) ≤ areaTo l k ∧ areaTo l k ≤ 2251799813685248 * (k : Int) := by
  induction k with
  | zero => simp [areaTo]
  | succ k ih =>
    have := ih (by omega) (by omega)
    have ht := turnZ_bd (okP_getD h 0 (by omega)) (okP_getD h (k + 1) (by omega)) (okP_getD h (k + 2) (by omega))
    simp only [areaTo]
    omega
end Go.Proofs.Ytcabnkclelgoeaa
