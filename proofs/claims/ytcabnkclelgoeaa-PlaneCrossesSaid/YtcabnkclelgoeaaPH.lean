/- The law PlaneCrosses: all cases together. -/
import Derived.Test.YtcabnkclelgoeaaPF
import Derived.Test.YtcabnkclelgoeaaPG
namespace Go.Proofs.Ytcabnkclelgoeaa
set_option linter.unusedSimpArgs false
set_option linter.unusedVariables false
open Go.ChangeShapes Go.WideShapes Go.ChangeAt Go.RowKit

set_option maxRecDepth 100000 in
set_option maxHeartbeats 400000 in
theorem crosses_err (a1 a2 b1 b2 c1 c2 d1 d2 e0 : Int) (w : World) (he : (e0 != 0) = true)
    (HC : Hid (∀ W, Calls Try.prog 10 #[pt a1 a2, pt b1 b2, pt c1 c2, pt d1 d2] W fun e w' => e = .returned (.tuple #[.int .i64 0, .int .i64 e0]) ∧ Below W.heap.size W w')) :
    Calls Try.prog 4 #[pt a1 a2, pt b1 b2, pt c1 c2, pt d1 d2] w fun e w' => e = .returned (.bool true) ∧ Below w.heap.size w w' := by
  go_enter Try.func4, Try.ntmps4
  go_wp2_with fail
  refine (awake_true _).mono ?_
  rintro e wn ⟨rfl, hbn⟩
  have hF1 := (Four.start w 23 a1 a2 b1 b2 c1 c2 d1 d2).below hbn
  have hB1 := (show Below w.heap.size w _ from by (repeat' (first | (with_reducible exact Below.refl _ _) | (with_reducible assumption) | (with_reducible refine Below.alloc ?_ ?_ _) | (with_reducible refine Below.drew ?_) | (with_reducible refine below_drewN ?_ _) | (with_reducible refine Below.setCell ?_ ?_ _) | (exact Below.size (by with_reducible assumption)) | go_size))).trans (hbn.mono (by simp; omega))
  clear hbn
  obtain ⟨hz1, e1, e2, e3, e4, e5, e6, e7, e8⟩ := id hF1; obtain ⟨l1, l2, l3, l4⟩ := hF1.lts
  go_wp2_with fail
  refine (HC.out _).mono ?_
  rintro e wn ⟨rfl, hbn⟩
  have hF1 := hF1.below hbn; have hB1 := hB1.trans (hbn.mono hB1.size); clear hbn
  go_wp2
  go_returns
  exact ⟨rfl, by assumption⟩

theorem crosses_law (a1 a2 b1 b2 c1 c2 d1 d2 : Int) (w : World) :
    Calls Try.prog 4 #[pt a1 a2, pt b1 b2, pt c1 c2, pt d1 d2] w fun e w' => e = .returned (.bool true) ∧ Below w.heap.size w w' := by
  by_cases h : [(a1, a2), (b1, b2), (c1, c2), (d1, d2)].all okP = true
  · by_cases hs : (a1 = b1 ∧ a2 = b2) ∨ (c1 = d1 ∧ c2 = d2)
    · exact crosses_err _ _ _ _ _ _ _ _ 25 w (by decide) (Lib.hid fun W => cross_shape _ _ _ _ _ _ _ _ W h hs)
    · have h2 := h
      simp only [List.all_cons, List.all_nil, Bool.and_true, Bool.and_eq_true] at h2
      obtain ⟨ha, hb, hc, hd⟩ := h2
      have hab : ¬ (a1 = b1 ∧ a2 = b2) := fun x => hs (.inl x)
      have hcd : ¬ (c1 = d1 ∧ c2 = d2) := fun x => hs (.inr x)
      have HC := Lib.hid fun W => cross_ok a1 a2 b1 b2 c1 c2 d1 d2 W ha hb hc hd hab hcd
      have OX := Lib.hid fun W => orient_ok c1 c2 d1 d2 a1 a2 W hc hd ha
      have OY := Lib.hid fun W => orient_ok c1 c2 d1 d2 b1 b2 W hc hd hb
      have OZ := Lib.hid fun W => orient_ok a1 a2 b1 b2 c1 c2 W ha hb hc
      have OQ := Lib.hid fun W => orient_ok a1 a2 b1 b2 d1 d2 W ha hb hd
      have HT := fun W => cut_ok a1 a2 b1 b2 c1 c2 d1 d2 W ha hb hc hd hab hcd
      have TX := Lib.hid fun W => twice3_ok c1 c2 d1 d2 a1 a2 W hc hd ha
      have TY := Lib.hid fun W => twice3_ok c1 c2 d1 d2 b1 b2 W hc hd hb
      have hK := cross_two (a1, a2) (b1, b2) (c1, c2) (d1, d2)
      have bX := turnZ_bd hc hd ha
      have bY := turnZ_bd hc hd hb
      have m1 := mul_bd _ _ 1 1 (cmpZ_bd (turnZ (c1, c2) (d1, d2) (a1, a2)) 0) (cmpZ_bd (turnZ (c1, c2) (d1, d2) (b1, b2)) 0)
      have m2 := mul_bd _ _ 1 1 (cmpZ_bd (turnZ (a1, a2) (b1, b2) (c1, c2)) 0) (cmpZ_bd (turnZ (a1, a2) (b1, b2) (d1, d2)) 0)
      have hf := cut_facts (turnZ (c1, c2) (d1, d2) (a1, a2)) (turnZ (c1, c2) (d1, d2) (b1, b2))
      generalize crossZ (a1, a2) (b1, b2) (c1, c2) (d1, d2) = K at *
      generalize turnZ (c1, c2) (d1, d2) (a1, a2) = X at *
      generalize turnZ (c1, c2) (d1, d2) (b1, b2) = Y at *
      generalize cmpZ (turnZ (a1, a2) (b1, b2) (c1, c2)) 0 = z at *
      generalize cmpZ (turnZ (a1, a2) (b1, b2) (d1, d2)) 0 = q at *
      have hx := cmpZ_cases X 0
      have hy := cmpZ_cases Y 0
      generalize cmpZ X 0 = x at *
      generalize cmpZ Y 0 = y at *
      have hK2 : ∀ b : Bool, ((K == 2) = b) ↔ ((b = true) ↔ (x * y < 0 ∧ z * q < 0)) := by
        intro b
        rw [← hK]
        cases b <;> simp
      have hcase : (x * y < 0) ∨ (0 ≤ x * y) := by omega
      rcases hf with ⟨hr, hf⟩ | ⟨hr, hf⟩ | hr | ⟨g, N, D, hg, hN, hD, hND, hD2, hu, hv, hs2, hr⟩
      · have hxy : x = y := by omega
        have hp : 0 ≤ x * y := by rw [hxy]; exact sq_nonneg y
        exact crosses_zero a1 a2 b1 b2 c1 c2 d1 d2 K x y z q w HC OX OY OZ OQ (by omega) (by omega) (by omega) (by omega) (Lib.hid fun W => by have := HT W; rw [hr] at this; exact this) hp ((hK2 false).2 (by simp; omega)) (by simpa using hxy)
      · have hp : 0 ≤ x * y := by
          rcases hf with ⟨f1, f2⟩ | ⟨f1, f2⟩
          · have : x = -1 := by omega
            have : y = -1 := by omega
            subst x; subst y; decide
          · have : x = 1 := by omega
            have : y = 1 := by omega
            subst x; subst y; decide
        exact crosses_range a1 a2 b1 b2 c1 c2 d1 d2 K x y z q w HC OX OY OZ OQ (by omega) (by omega) (by omega) (by omega) (Lib.hid fun W => by have := HT W; rw [hr] at this; exact this) hp ((hK2 false).2 (by simp; omega))
      · have HT' : Hid (∀ W, Calls Try.prog 11 #[pt a1 a2, pt b1 b2, pt c1 c2, pt d1 d2] W fun e w' => e = .returned (fr ((0, 0), 5)) ∧ Below W.heap.size W w') := Lib.hid fun W => by have := HT W; rw [hr] at this; exact this
        rcases hcase with hp | hp
        · by_cases hq : z * q < 0
          · exact crosses_big_b a1 a2 b1 b2 c1 c2 d1 d2 K x y z q w HC OX OY OZ OQ (by omega) (by omega) (by omega) (by omega) HT' hp hq ((hK2 true).2 (by simp; omega))
          · exact crosses_big_c a1 a2 b1 b2 c1 c2 d1 d2 K x y z q w HC OX OY OZ OQ (by omega) (by omega) (by omega) (by omega) HT' hp (by omega) ((hK2 false).2 (by simp; omega))
        · exact crosses_big_a a1 a2 b1 b2 c1 c2 d1 d2 K x y z q w HC OX OY OZ OQ (by omega) (by omega) (by omega) (by omega) HT' hp ((hK2 false).2 (by simp; omega))
      · have HT' : Hid (∀ W, Calls Try.prog 11 #[pt a1 a2, pt b1 b2, pt c1 c2, pt d1 d2] W fun e w' => e = .returned (fr ((N, D), 0)) ∧ Below W.heap.size W w') := Lib.hid fun W => by have := HT W; rw [hr] at this; exact this
        have hu0 : 0 ≤ max X (-X) := by omega
        have hv0 : 0 ≤ max Y (-Y) := by omega
        have hu1 : max X (-X) ≤ 2251799813685248 := by omega
        have hv1 : max Y (-Y) ≤ 2251799813685248 := by omega
        have hxN : x = 0 ↔ N = 0 := by
          constructor
          · intro hx0
            have hX0 : X = 0 := by omega
            rw [hX0] at hu
            have : g * N = 0 := by rw [← hu]; decide
            rcases Int.mul_eq_zero.1 this with k | k <;> omega
          · intro hN0
            rw [hN0, Int.mul_zero] at hu
            omega
        have hyN : y = 0 ↔ N = D := by
          constructor
          · intro hy0
            have hY0 : Y = 0 := by omega
            rw [hY0] at hv
            have : g * (D - N) = 0 := by rw [← hv]; decide
            rcases Int.mul_eq_zero.1 this with k | k <;> omega
          · intro hN0
            rw [hN0, Int.sub_self, Int.mul_zero] at hv
            omega
        by_cases hN0 : N = 0
        · have hx0 : x = 0 := hxN.2 hN0
          have hy0 : y ≠ 0 := fun k => by have := hyN.1 k; omega
          subst hN0
          have hmx : max X (-X) = 0 := by rw [hu, Int.mul_zero]
          rw [hmx] at TX
          have hxy : x * y = 0 := by rw [hx0, Int.zero_mul]
          exact crosses_n0 a1 a2 b1 b2 c1 c2 d1 d2 K x y z q (max Y (-Y)) D g w HC OX OY OZ OQ (by omega) (by omega) (by omega) (by omega) TX TY HT' hg hv0 hv1 (by omega) hD hD2 (by rw [hv, Int.sub_zero]) (by simpa using hx0) (by simpa using hy0) (by omega) ((hK2 false).2 (by simp; omega))
        · by_cases hNd : N = D
          · have hy0 : y = 0 := hyN.2 hNd
            have hx0 : x ≠ 0 := fun k => hN0 (hxN.1 k)
            subst hNd
            have hmx : max Y (-Y) = 0 := by rw [hv, Int.sub_self, Int.mul_zero]
            rw [hmx] at TY
            have hxy : x * y = 0 := by rw [hy0, Int.mul_zero]
            exact crosses_nd a1 a2 b1 b2 c1 c2 d1 d2 K x y z q (max X (-X)) N g w HC OX OY OZ OQ (by omega) (by omega) (by omega) (by omega) TX TY HT' hg hu0 hu1 (by omega) (by omega) hD2 hu (by simpa using hx0) (by simpa using hy0) (by omega) ((hK2 false).2 (by simp; omega))
          · have hx0 : x ≠ 0 := fun k => hN0 (hxN.1 k)
            have hy0 : y ≠ 0 := fun k => hNd (hyN.1 k)
            have hp : x * y < 0 := by
              rcases hs2 with ⟨f1, f2⟩ | ⟨f1, f2⟩
              · have : x = 1 := by omega
                have : y = -1 := by omega
                subst x; subst y; decide
              · have : x = -1 := by omega
                have : y = 1 := by omega
                subst x; subst y; decide
            by_cases hq : z * q < 0
            · exact crosses_in_b a1 a2 b1 b2 c1 c2 d1 d2 K x y z q (max X (-X)) (max Y (-Y)) N D g w HC OX OY OZ OQ (by omega) (by omega) (by omega) (by omega) TX TY HT' hg hu0 hv0 hu1 hv1 (by omega) (by omega) (by omega) hD2 hu hv (by simpa using hx0) (by simpa using hy0) hp hq ((hK2 true).2 (by simp; omega))
            · exact crosses_in_c a1 a2 b1 b2 c1 c2 d1 d2 K x y z q (max X (-X)) (max Y (-Y)) N D g w HC OX OY OZ OQ (by omega) (by omega) (by omega) (by omega) TX TY HT' hg hu0 hv0 hu1 hv1 (by omega) (by omega) (by omega) hD2 hu hv (by simpa using hx0) (by simpa using hy0) hp (by omega) ((hK2 false).2 (by simp; omega))
  · exact crosses_err _ _ _ _ _ _ _ _ 1 w (by decide) (Lib.hid fun W => cross_arg _ _ _ _ _ _ _ _ W (by simpa using h))
end Go.Proofs.Ytcabnkclelgoeaa
