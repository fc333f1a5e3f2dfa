/- Walks of the references of layer 3 that Distance reaches: Mul, Less, Root. -/
import Derived.Test.YtcabnkclelgoeaaL
import Derived.Deep.RegionHeld3
import Derived.Deep.DrawnRows
namespace Go.Proofs.Ytcabnkclelgoeaa
set_option linter.unusedSimpArgs false
set_option linter.unusedVariables false
attribute [local go_sem ↓] Go.wp_at_zero Go.wp_at_succ
open Go.ChangeShapes Go.WideShapes Go.ChangeAt Go.RowKit

theorem less_any (h1 l1 h2 l2 : Int) (w : World) :
    Calls Try.prog 72 #[.agg #[.int .u64 h1, .int .u64 l1], .agg #[.int .u64 h2, .int .u64 l2]] w fun e w' => e = .returned (.bool (decide (h1 < h2 ∨ (h1 = h2 ∧ l1 < l2)))) ∧ Below w.heap.size w w' := by
  go_enter Try.func72, Try.ntmps72
  go_wp2
  all_goals (go_returns; exact ⟨ret_bool (by apply bool_eq; simp; try omega), by (repeat' (first | (with_reducible exact Below.refl _ _) | (with_reducible assumption) | (with_reducible refine Below.alloc ?_ ?_ _) | (with_reducible refine Below.drew ?_) | (with_reducible refine below_drewN ?_ _) | (with_reducible refine Below.setCell ?_ ?_ _) | (exact Below.size (by with_reducible assumption)) | go_size))⟩)

theorem mulU_any (x y : Int) (w : World) (hx0 : 0 ≤ x) (hx : x < 9223372036854775808) (hy0 : 0 ≤ y) (hy : y < 9223372036854775808) :
    Calls Try.prog 73 #[.int .u64 x, .int .u64 y] w fun e w' => e = .returned (.agg #[.int .u64 (x * y / 18446744073709551616), .int .u64 (x * y % 18446744073709551616)]) ∧ Below w.heap.size w w' := by
  obtain ⟨x1, hx1⟩ : ∃ x1, x / 4294967296 = x1 := ⟨_, rfl⟩
  obtain ⟨x0, hx0'⟩ : ∃ x0, x % 4294967296 = x0 := ⟨_, rfl⟩
  obtain ⟨y1, hy1⟩ : ∃ y1, y / 4294967296 = y1 := ⟨_, rfl⟩
  obtain ⟨y0, hy0'⟩ : ∃ y0, y % 4294967296 = y0 := ⟨_, rfl⟩
  have a1 : bits .and .u64 x 4294967295 = x0 := by rw [and_low32 x hx0 (by omega), hx0']
  have a2 : bits .and .u64 y 4294967295 = y0 := by rw [and_low32 y hy0 (by omega), hy0']
  have ex : x = x1 * 4294967296 + x0 := by omega
  have ey : y = y1 * 4294967296 + y0 := by omega
  have b1 : 0 ≤ x1 ∧ x1 ≤ 4294967295 := by omega
  have b2 : 0 ≤ x0 ∧ x0 ≤ 4294967295 := by omega
  have b3 : 0 ≤ y1 ∧ y1 ≤ 4294967295 := by omega
  have b4 : 0 ≤ y0 ∧ y0 ≤ 4294967295 := by omega
  obtain ⟨pA, pA2⟩ := prod_bound x1 y1 b1.1 b1.2 b3.1 b3.2
  obtain ⟨pB, pB2⟩ := prod_bound x1 y0 b1.1 b1.2 b4.1 b4.2
  obtain ⟨pC, pC2⟩ := prod_bound x0 y0 b2.1 b2.2 b4.1 b4.2
  obtain ⟨pD, pD2⟩ := prod_bound x0 y1 b2.1 b2.2 b3.1 b3.2
  have hxy : x * y = x1 * y1 * 18446744073709551616 + (x1 * y0 + x0 * y1) * 4294967296 + x0 * y0 := by rw [ex, ey]; exact split_mul x1 x0 y1 y0
  have Hxy := Lib.hid hxy
  have a3 : bits .and .u64 (x1 * y0 + x0 * y0 / 4294967296) 4294967295 = (x1 * y0 + x0 * y0 / 4294967296) % 4294967296 := and_low32 _ (by omega) (by omega)
  have a4 : bits .and .u64 (x0 * y0) 4294967295 = x0 * y0 % 4294967296 := and_low32 _ (by omega) (by omega)
  clear hxy ex ey b1 b2 b3 b4 hx0' hy0' hx0 hx hy0 hy
  go_enter Try.func73, Try.ntmps73
  go_wp2
  go_returns
  refine ⟨congrArg Ending.returned ?_, by (repeat' (first | (with_reducible exact Below.refl _ _) | (with_reducible assumption) | (with_reducible refine Below.alloc ?_ ?_ _) | (with_reducible refine Below.drew ?_) | (with_reducible refine below_drewN ?_ _) | (with_reducible refine Below.setCell ?_ ?_ _) | (exact Below.size (by with_reducible assumption)) | go_size))⟩
  rw [Hxy.out]
  generalize x1 * y1 = A at *
  generalize x1 * y0 = B at *
  generalize x0 * y0 = C at *
  generalize x0 * y1 = D at *
  have r1 : A + (B + C / 4294967296) / 4294967296 + (D + (B + C / 4294967296) % 4294967296) / 4294967296 = (A * 18446744073709551616 + (B + D) * 4294967296 + C) / 18446744073709551616 := by omega
  have r2 : IntKind.u64.wrap (IntKind.u64.wrap ((D + (B + C / 4294967296) % 4294967296) * 4294967296) + C % 4294967296) = (A * 18446744073709551616 + (B + D) * 4294967296 + C) % 18446744073709551616 := by
    rw [IntKind.wrap_u64, IntKind.wrap_u64]
    omega
  rw [r1, r2]

theorem rroot_step (n r k : Nat) (hr : r % 2 ^ (k + 1) = 0) (h1 : r * r ≤ n) (h2 : n < (r + 2 ^ (k + 1)) * (r + 2 ^ (k + 1))) :
    ((r + 2 ^ k) * (r + 2 ^ k) ≤ n → (r + 2 ^ k) % 2 ^ k = 0 ∧ n < (r + 2 ^ k + 2 ^ k) * (r + 2 ^ k + 2 ^ k)) ∧ (n < (r + 2 ^ k) * (r + 2 ^ k) → r % 2 ^ k = 0) := by
  have e : 2 ^ (k + 1) = 2 ^ k + 2 ^ k := by rw [Nat.pow_succ]; omega
  have hm : r % 2 ^ k = 0 := by
    have : 2 ^ k ∣ 2 ^ (k + 1) := ⟨2, by rw [Nat.pow_succ]⟩
    exact Nat.mod_eq_zero_of_dvd (Nat.dvd_trans this (Nat.dvd_of_mod_eq_zero hr))
  refine ⟨fun h => ⟨by rw [Nat.add_mod_right]; exact hm, by rw [e, ← Nat.add_assoc] at h2; exact h2⟩, fun _ => hm⟩

set_option maxHeartbeats 1000000 in
theorem rroot_any (n r : Nat) (w : World) (h2 : n < 1152921504606846976) (hr1 : r * r ≤ n) (hr2 : n < (r + 1) * (r + 1)) :
    Calls Try.prog 49 #[.agg #[.int .u64 0, .int .u64 n]] w fun e w' => e = .returned (.int .u64 r) ∧ Below w.heap.size w w' := by
  have HR := Lib.hid (And.intro hr1 hr2)
  clear hr1 hr2
  go_enter Try.func49, Try.ntmps49
  go_wp2
  obtain ⟨W, hW, hBW⟩ : ∃ W, W = w.alloc (Obj.cells #[Value.int IntKind.u64 0, Value.int IntKind.u64 n] 74) ∧ Below w.heap.size w W := ⟨_, rfl, by (repeat' (first | (with_reducible exact Below.refl _ _) | (with_reducible assumption) | (with_reducible refine Below.alloc ?_ ?_ _) | (with_reducible refine Below.drew ?_) | (with_reducible refine below_drewN ?_ _) | (with_reducible refine Below.setCell ?_ ?_ _) | (exact Below.size (by with_reducible assumption)) | go_size))⟩
  have b1 : W.cell? ⟨w.heap.size, 0, none⟩ = some (.int .u64 0) := by rw [hW]; go_simp
  have b2 : W.cell? ⟨w.heap.size, 1, none⟩ = some (.int .u64 n) := by rw [hW]; go_simp
  have hs : w.heap.size < W.heap.size := by rw [hW]; simp
  rw [← hW]
  clear hW
  go_loopw [3, 4] (fun v3 v4 wr => ∃ k q : Nat, k ≤ 63 ∧ q % 2 ^ (63 - k) = 0 ∧ q * q ≤ n ∧ n < (q + 2 ^ (63 - k)) * (q + 2 ^ (63 - k)) ∧ v3 = .int .u64 q ∧ v4 = .int .i64 k ∧ Below W.heap.size W wr) (fun v3 v4 _ => 63 - (intOf v4).toNat)
  case atStart => exact ⟨0, 0, by omega, by simp, by omega, by simp; omega, rfl, rfl, Below.refl _ _⟩
  case round =>
    obtain ⟨k, q, hk, hq1, hq2, hq3, rfl, rfl, hB⟩ := hrel
    have hq4 : q < 1152921504606846976 := by
      have : q ≤ q * q := Nat.le_mul_self q
      omega
    by_cases hlt : k < 63
    · have i1 : (k : Int) < 63 := by omega
      have e63 : 63 - k = (62 - k) + 1 := by omega
      rw [e63] at hq1 hq3
      have hp := Nat.two_pow_pos (62 - k)
      have hp2 : 2 ^ (62 - k) ≤ 2 ^ 62 := Nat.pow_le_pow_right (by omega) (by omega)
      have hp3 : 2 ^ (62 - k) ≤ 4611686018427387904 := by omega
      have hst := Lib.hid (rroot_step n q (62 - k) hq1 hq2 hq3)
      have hcast : ((2 ^ (62 - k) : Nat) : Int) = (2 : Int) ^ (62 - k) := by simp
      have e5 : IntKind.u64.wrap (q + IntKind.u64.wrap (2 ^ (62 - k))) = (q : Int) + ((2 ^ (62 - k) : Nat) : Int) := by
        rw [← hcast, IntWalk.u64_in ((2 ^ (62 - k) : Nat) : Int) (by omega), IntWalk.u64_in _ (by omega)]
      have E5 := Lib.hid e5
      have hq2' := Lib.hid hq2
      clear hq1 hq2 hq3 e63 hp2 hcast e5
      go_wp2
      rw [E5.out]
      clear E5
      have hpk : ∃ b, Hid (2 ^ (62 - k) = b) := ⟨_, Lib.hid rfl⟩
      obtain ⟨b, hpk⟩ := hpk
      rw [hpk.out] at hst hp hp3 ⊢
      have c1 := ((hB.drew.cell (p := ⟨w.heap.size, 0, none⟩) hs)).trans b1
      have c2 := ((hB.drew.cell (p := ⟨w.heap.size, 1, none⟩) hs)).trans b2
      have HM := fun W => mulU_any ((q : Int) + b) ((q : Int) + b) W (by omega) (by omega) (by omega) (by omega)
      have hT : Hid (((q : Int) + b) * ((q : Int) + b) = (((q + b) * (q + b) : Nat) : Int)) := Lib.hid (by rw [Int.natCast_mul, Int.natCast_add])
      have hT0 : (0 : Int) ≤ ((q : Int) + b) * ((q : Int) + b) := by rw [hT.out]; omega
      generalize ((q : Int) + b) * ((q : Int) + b) = T at *
      have HM := Lib.hid HM
      have hs0 : W.heap.size ≤ wr.heap.size := hB.size
      by_cases hle : (q + b) * (q + b) ≤ n
      · have hle2 : T ≤ n := by rw [hT.out]; omega
        have hl : Hid (decide ((0 : Int) < T / 18446744073709551616 ∨ ((0 : Int) = T / 18446744073709551616 ∧ (n : Int) < T % 18446744073709551616)) = false) := Lib.hid (by simp; omega)
        have HL := fun W => less_any 0 n (T / 18446744073709551616) (T % 18446744073709551616) W
        rw [hl.out] at HL
        have HL := Lib.hid HL
        have hle := Lib.hid hle
        go_region_held3 (fun w' => w'.cell? ⟨w.heap.size, 0, none⟩ = some (.int .u64 0) ∧ w'.cell? ⟨w.heap.size, 1, none⟩ = some (.int .u64 n))
          (first | (exact ⟨c1, c2⟩) | go_keep)
          (first
           | (go_at_call 73; (with_reducible refine (HM.out _).mono ?_); rintro e wn ⟨rfl, hbn⟩; have c1 := (hbn.cell (by simp; omega)).trans c1; have c2 := (hbn.cell (by simp; omega)).trans c2; have hB := hB.drew.trans (hbn.mono hs0); have hs0 := hB.size; clear hbn)
           | (go_at_call 72; (with_reducible refine (HL.out _).mono ?_); rintro e wn ⟨rfl, hbn⟩; have c1 := (hbn.cell (by simp; omega)).trans c1; have c2 := (hbn.cell (by simp; omega)).trans c2; have hB := hB.trans (hbn.mono hs0); have hs0 := hB.size; clear hbn))
        go_wp2
        go_roundw
        case rel =>
          refine ⟨k + 1, q + b, by omega, ?_, hle.out, ?_, rfl, by go_num, hB⟩
          · rw [show 63 - (k + 1) = 62 - k by omega, hpk.out]; exact (hst.out.1 hle.out).1
          · rw [show 63 - (k + 1) = 62 - k by omega, hpk.out]; exact (hst.out.1 hle.out).2
        case measure => simp [intOf]; omega
      · have hle2 : (n : Int) < T := by rw [hT.out]; omega
        have hle : n < (q + b) * (q + b) := by omega
        have hl : Hid (decide ((0 : Int) < T / 18446744073709551616 ∨ ((0 : Int) = T / 18446744073709551616 ∧ (n : Int) < T % 18446744073709551616)) = true) := Lib.hid (by simp; omega)
        have HL := fun W => less_any 0 n (T / 18446744073709551616) (T % 18446744073709551616) W
        rw [hl.out] at HL
        have HL := Lib.hid HL
        have hle := Lib.hid hle
        go_region_held3 (fun w' => w'.cell? ⟨w.heap.size, 0, none⟩ = some (.int .u64 0) ∧ w'.cell? ⟨w.heap.size, 1, none⟩ = some (.int .u64 n))
          (first | (exact ⟨c1, c2⟩) | go_keep)
          (first
           | (go_at_call 73; (with_reducible refine (HM.out _).mono ?_); rintro e wn ⟨rfl, hbn⟩; have c1 := (hbn.cell (by simp; omega)).trans c1; have c2 := (hbn.cell (by simp; omega)).trans c2; have hB := hB.drew.trans (hbn.mono hs0); have hs0 := hB.size; clear hbn)
           | (go_at_call 72; (with_reducible refine (HL.out _).mono ?_); rintro e wn ⟨rfl, hbn⟩; have c1 := (hbn.cell (by simp; omega)).trans c1; have c2 := (hbn.cell (by simp; omega)).trans c2; have hB := hB.trans (hbn.mono hs0); have hs0 := hB.size; clear hbn))
        go_wp2
        go_roundw
        case rel =>
          refine ⟨k + 1, q, by omega, ?_, hq2'.out, ?_, rfl, by go_num, hB⟩
          · rw [show 63 - (k + 1) = 62 - k by omega, hpk.out]; exact hst.out.2 hle.out
          · rw [show 63 - (k + 1) = 62 - k by omega, hpk.out]; exact hle.out
        case measure => simp [intOf]; omega
    · have hk3 : k = 63 := by omega
      subst hk3
      have hqr : Hid (q = r) := Lib.hid (root_uniq hq2 (by simpa using hq3) HR.out.1 HR.out.2)
      clear hq1 hq2 hq3
      go_wp2
      go_returns
      exact ⟨by first | (rw [hqr.out]; done) | (rw [hqr.out]; rfl), hBW.trans (hB.mono (by omega))⟩
end Go.Proofs.Ytcabnkclelgoeaa
