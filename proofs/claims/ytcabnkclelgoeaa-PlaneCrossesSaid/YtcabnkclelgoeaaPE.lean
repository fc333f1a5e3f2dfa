/- What the outcomes of Cut say of the turns; the walk of the law's own 'twice'. -/
import Derived.Test.YtcabnkclelgoeaaU
import Derived.Test.YtcabnkclelgoeaaQ
namespace Go.Proofs.Ytcabnkclelgoeaa
set_option linter.unusedSimpArgs false
set_option linter.unusedVariables false
open Go.ChangeShapes Go.WideShapes Go.ChangeAt Go.RowKit

theorem Out.drew2 {w : World} {b : Nat} {x y : Int} (h : Out w b x y) : Out w.drew b x y := h
theorem make_facts (n d : Int) (hn : 0 ≤ n) (hd : 0 < d) (hnd : n ≤ d) :
    makeR n d = ((0, 0), 5) ∨ ∃ g N D : Int, 1 ≤ g ∧ 0 ≤ N ∧ 1 ≤ D ∧ N ≤ D ∧ D ≤ 1073741824 ∧ n = g * N ∧ d = g * D ∧ makeR n d = ((N, D), 0) := by
  unfold makeR
  obtain ⟨n, rfl⟩ := Int.eq_ofNat_of_zero_le hn
  obtain ⟨d, rfl⟩ := Int.eq_ofNat_of_zero_le (Int.le_of_lt hd)
  have hg : 0 < Nat.gcd n d := Nat.gcd_pos_of_pos_right _ (by omega)
  have e1 : n = Nat.gcd n d * (n / Nat.gcd n d) := (Nat.mul_div_cancel' (Nat.gcd_dvd_left n d)).symm
  have e2 : d = Nat.gcd n d * (d / Nat.gcd n d) := (Nat.mul_div_cancel' (Nat.gcd_dvd_right n d)).symm
  have c1 : ((n / Nat.gcd n d : Nat) : Int) = (n : Int) / (Nat.gcd n d : Nat) := Int.natCast_ediv _ _
  have c2 : ((d / Nat.gcd n d : Nat) : Int) = (d : Int) / (Nat.gcd n d : Nat) := Int.natCast_ediv _ _
  have h3 : n / Nat.gcd n d ≤ d / Nat.gcd n d := Nat.div_le_div_right (by omega)
  have h4 : 0 < d / Nat.gcd n d := Nat.div_pos (Nat.le_of_dvd (by omega) (Nat.gcd_dvd_right n d)) hg
  rw [Int.toNat_natCast, Int.toNat_natCast, ← c1, ← c2]
  clear c1 c2
  generalize n / Nat.gcd n d = N at *
  generalize d / Nat.gcd n d = D at *
  generalize Nat.gcd n d = g at *
  split
  · exact .inl rfl
  · right
    exact ⟨g, N, D, by omega, by omega, by omega, by omega, by omega, by rw [e1, Int.natCast_mul], by rw [e2, Int.natCast_mul], rfl⟩

theorem cut_facts (X Y : Int) :
    (cutR X (X - Y) = ((0, 0), 16) ∧ X = Y) ∨ (cutR X (X - Y) = ((0, 0), 2) ∧ (X < 0 ∧ Y < 0 ∨ 0 < X ∧ 0 < Y)) ∨
    (cutR X (X - Y) = ((0, 0), 5)) ∨
    (∃ g N D : Int, 1 ≤ g ∧ 0 ≤ N ∧ 1 ≤ D ∧ N ≤ D ∧ D ≤ 1073741824 ∧ max X (-X) = g * N ∧ max Y (-Y) = g * (D - N) ∧ (0 ≤ X ∧ Y ≤ 0 ∨ X ≤ 0 ∧ 0 ≤ Y) ∧ cutR X (X - Y) = ((N, D), 0)) := by
  rcases Int.lt_trichotomy (X - Y) 0 with h | h | h
  · by_cases h2 : -X < 0 ∨ -(X - Y) < -X
    · exact .inr (.inl ⟨cutR_nr h h2, by omega⟩)
    · rw [cutR_n h (by omega) (by omega)]
      rcases make_facts (-X) (-(X - Y)) (by omega) (by omega) (by omega) with k | ⟨g, N, D, k1, k2, k3, k4, k5, k6, k7, k8⟩
      · exact .inr (.inr (.inl k))
      · refine .inr (.inr (.inr ⟨g, N, D, k1, k2, k3, k4, k5, ?_, ?_, by omega, k8⟩))
        · rw [← k6]; omega
        · rw [Int.mul_sub, ← k6, ← k7]; omega
  · exact .inl ⟨cutR_zero h, by omega⟩
  · by_cases h2 : X < 0 ∨ X - Y < X
    · exact .inr (.inl ⟨cutR_pr h h2, by omega⟩)
    · rw [cutR_p h (by omega) (by omega)]
      rcases make_facts X (X - Y) (by omega) (by omega) (by omega) with k | ⟨g, N, D, k1, k2, k3, k4, k5, k6, k7, k8⟩
      · exact .inr (.inr (.inl k))
      · refine .inr (.inr (.inr ⟨g, N, D, k1, k2, k3, k4, k5, ?_, ?_, by omega, k8⟩))
        · rw [← k6]; omega
        · rw [Int.mul_sub, ← k6, ← k7]; omega

theorem cross_two (a b c d : Int × Int) : crossZ a b c d = 2 ↔ (cmpZ (turnZ c d a) 0 * cmpZ (turnZ c d b) 0 < 0 ∧ cmpZ (turnZ a b c) 0 * cmpZ (turnZ a b d) 0 < 0) := by
  unfold crossZ
  simp only [apartB_iff]
  split
  · rename_i h; simp [h.1, h.2]
  · rename_i h
    constructor
    · intro h2; split at h2 <;> omega
    · intro h2; exact absurd ⟨h2.2, h2.1⟩ h

theorem area3 (a b c : Int × Int) : areaZ [a, b, c] = turnZ a b c := by
  show areaTo [a, b, c] 1 = _
  simp [areaTo]
theorem poly3 {a b c : Int × Int} (ha : okP a = true) (hb : okP b = true) (hc : okP c = true) : polyE [a, b, c] = 0 := by
  unfold polyE
  rw [if_neg (by simp [ha, hb, hc])]
  rfl
theorem twice3_ok (a1 a2 b1 b2 c1 c2 : Int) (w : World) (ha : okP (a1, a2) = true) (hb : okP (b1, b2) = true) (hc : okP (c1, c2) = true) :
    Calls Try.prog 16 #[pt a1 a2, pt b1 b2, pt c1 c2] w fun e w' => e = .returned (.int .i64 (max (turnZ (a1, a2) (b1, b2) (c1, c2)) (-turnZ (a1, a2) (b1, b2) (c1, c2)))) ∧ Below w.heap.size w w' := by
  have HT := fun (b cap : Nat) (W : World) (hw : b < W.heap.size) (hp : PtsAt W b 0 [(a1, a2), (b1, b2), (c1, c2)]) => twice_ok b 0 3 cap [(a1, a2), (b1, b2), (c1, c2)] W rfl (by simp [maxLen]) hw hp (poly3 ha hb hc)
  rw [area3] at HT
  obtain ⟨t1, t2⟩ := turnZ_bd ha hb hc
  clear ha hb hc
  generalize turnZ (a1, a2) (b1, b2) (c1, c2) = t at *
  have HT := Lib.hid HT
  go_enter Try.func16, Try.ntmps16
  go_wp2_with fail
  refine (HT.out _ _ _ (by simp) (ptsAt3 _ _ _ _ _ _ _ _ _ (by simp))).mono ?_
  rintro e wn ⟨rfl, hbn⟩
  have hB1 := (show Below w.heap.size w _ from by (repeat' (first | (with_reducible exact Below.refl _ _) | (with_reducible assumption) | (with_reducible refine Below.alloc ?_ ?_ _) | (with_reducible refine Below.drew ?_) | (with_reducible refine below_drewN ?_ _) | (with_reducible refine Below.setCell ?_ ?_ _) | (exact Below.size (by with_reducible assumption)) | go_size))).trans (hbn.mono (Below.size (show Below w.heap.size w _ from by (repeat' (first | (with_reducible exact Below.refl _ _) | (with_reducible assumption) | (with_reducible refine Below.alloc ?_ ?_ _) | (with_reducible refine Below.drew ?_) | (with_reducible refine below_drewN ?_ _) | (with_reducible refine Below.setCell ?_ ?_ _) | (exact Below.size (by with_reducible assumption)) | go_size)))))
  go_wp2
  all_goals (go_returns; exact ⟨ret_int (by omega), hB1⟩)
end Go.Proofs.Ytcabnkclelgoeaa
