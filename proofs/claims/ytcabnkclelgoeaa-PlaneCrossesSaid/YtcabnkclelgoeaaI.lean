/- Walks of package wide as far as Distance reaches it: Of, Root. -/
import Derived.Test.YtcabnkclelgoeaaH
import Derived.Test.YtcabnkclelgoeaaJ
namespace Go.Proofs.Ytcabnkclelgoeaa
set_option linter.unusedSimpArgs false
set_option linter.unusedVariables false
open Go.ChangeShapes Go.WideShapes Go.ChangeAt Go.RowKit

theorem wsize_any (n : Int) (w : World) (h : 0 ≤ n) (h2 : n ≤ 4611686018427387904) :
    Calls Try.prog 71 #[.int .i64 n] w fun e w' => e = .returned (.int .u64 n) ∧ w = w' := by
  go_enter Try.func71, Try.ntmps71
  go_wp2
  go_returns
  exact ⟨rfl, rfl⟩

theorem or_zero_left (n : Nat) (h : n < 18446744073709551616) : bits .or .u64 0 n = n := by
  have := u64_or_nat 0 n (by omega) h
  simpa using this
theorem and_mask60 (n : Nat) (h : n < 1152921504606846976) : bits .and .u64 n 1152921504606846975 = n := by
  have := u64_and_nat n 1152921504606846975 (by omega) (by omega)
  have e : n &&& 1152921504606846975 = n := by
    have := Nat.and_two_pow_sub_one_eq_mod n 60
    have h2 : (2 : Nat) ^ 60 - 1 = 1152921504606846975 := by decide
    rw [h2] at this
    rw [this]
    exact Nat.mod_eq_of_lt h
  rw [e] at this
  exact this
theorem or_join (r k : Nat) (hk : k < 60) (hr : r % 2 ^ (k + 1) = 0) (hr2 : r < 1152921504606846976) : bits .or .u64 r ((2 ^ k : Nat) : Int) = ((r + 2 ^ k : Nat) : Int) := by
  have hp : 2 ^ k ≤ 2 ^ 59 := Nat.pow_le_pow_right (by omega) (by omega)
  have hp2 : 2 ^ k < 2 ^ (k + 1) := Nat.pow_lt_pow_right (by omega) (by omega)
  rw [u64_or_nat r (2 ^ k) (by omega) (by omega), nat_join (k + 1) r (2 ^ k) hr hp2]

theorem signed_any (h n : Nat) (w : World) :
    Calls Try.prog 70 #[.int .u64 h, .int .u64 n, .bool false] w fun e w' => e = .returned (.agg #[.int .u64 h, .int .u64 n, .bool false]) ∧ Below w.heap.size w w' := by
  go_enter Try.func70, Try.ntmps70
  go_wp2
  go_returns
  exact ⟨rfl, by (repeat' (first | (with_reducible exact Below.refl _ _) | (with_reducible assumption) | (with_reducible refine Below.alloc ?_ ?_ _) | (with_reducible refine Below.drew ?_) | (with_reducible refine below_drewN ?_ _) | (with_reducible refine Below.setCell ?_ ?_ _) | (exact Below.size (by with_reducible assumption)) | go_size))⟩

theorem placed_any (n : Nat) (w : World) (h2 : n < 1152921504606846976) :
    Calls Try.prog 69 #[.agg #[.int .u64 0, .int .u64 n, .bool false]] w fun e w' => e = .returned (.tuple #[.agg #[.int .i64 0, .int .i64 n], .int .i64 0]) ∧ Below w.heap.size w w' := by
  have h3 : (n : Int) / 1152921504606846976 = 0 := by omega
  have h4 : bits .or .u64 0 0 = 0 := by have := or_zero_left 0 (by omega); simpa using this
  have h5 := and_mask60 n h2
  go_enter Try.func69, Try.ntmps69
  go_wp2
  obtain ⟨W, hW, hB⟩ : ∃ W, W = (w.alloc (Obj.cells #[Value.int IntKind.u64 0, Value.int IntKind.u64 n, Value.bool false] 87)).alloc (Obj.cells #[Value.int IntKind.i64 0, Value.int IntKind.i64 0] 69) ∧ Below w.heap.size w W := ⟨_, rfl, by (repeat' (first | (with_reducible exact Below.refl _ _) | (with_reducible assumption) | (with_reducible refine Below.alloc ?_ ?_ _) | (with_reducible refine Below.drew ?_) | (with_reducible refine below_drewN ?_ _) | (with_reducible refine Below.setCell ?_ ?_ _) | (exact Below.size (by with_reducible assumption)) | go_size))⟩
  have hO := Out.start (w.alloc (Obj.cells #[Value.int IntKind.u64 0, Value.int IntKind.u64 n, Value.bool false] 87)) 69 0 0 (w.heap.size + 1) (by simp)
  have b1 : W.cell? ⟨w.heap.size, 0, none⟩ = some (.int .u64 0) := by rw [hW]; go_simp
  have b2 : W.cell? ⟨w.heap.size, 1, none⟩ = some (.int .u64 n) := by rw [hW]; go_simp
  have b3 : W.cell? ⟨w.heap.size, 2, none⟩ = some (.bool false) := by rw [hW]; go_simp
  rw [← hW] at hO ⊢
  clear hW
  obtain ⟨hy1, o1, o2, o3, o4⟩ := id hO
  go_quiet (fail)
  go_wp2
  exact bodyPost_ret (v := .tuple #[.agg #[.int .i64 0, .int .i64 n], .int .i64 0]) (by simp [results, Try.results69, go_sem, o1, o2]) rfl ⟨rfl, by (repeat' (first | (with_reducible exact Below.refl _ _) | (with_reducible assumption) | (with_reducible refine Below.alloc ?_ ?_ _) | (with_reducible refine Below.drew ?_) | (with_reducible refine below_drewN ?_ _) | (with_reducible refine Below.setCell ?_ ?_ _) | (exact Below.size (by with_reducible assumption)) | go_size))⟩

theorem of_any (n : Nat) (w : World) (h2 : n < 1152921504606846976) :
    Calls Try.prog 48 #[.int .i64 n] w fun e w' => e = .returned (.agg #[.int .i64 0, .int .i64 n]) ∧ Below w.heap.size w w' := by
  have hz : decide ((n : Int) < 0) = false := by simp
  have H := Lib.hid (fun W => placed_any n W h2)
  go_enter Try.func48, Try.ntmps48
  have HS := Lib.hid (fun W => signed_any 0 n W)
  go_wp2_with fail
  refine (wsize_any _ _ (by omega) (by omega)).mono ?_
  rintro e wn ⟨rfl, rfl⟩
  go_wp2_with fail
  refine (HS.out _).mono ?_
  rintro e wn ⟨rfl, hb1⟩
  have hO := (Out.start w 69 0 0 w.heap.size rfl).below hb1
  have hB := (show Below w.heap.size w _ from by (repeat' (first | (with_reducible exact Below.refl _ _) | (with_reducible assumption) | (with_reducible refine Below.alloc ?_ ?_ _) | (with_reducible refine Below.drew ?_) | (with_reducible refine below_drewN ?_ _) | (with_reducible refine Below.setCell ?_ ?_ _) | (exact Below.size (by with_reducible assumption)) | go_size))).trans (hb1.mono (by simp))
  clear hb1
  go_wp2_with fail
  refine (H.out _).mono ?_
  rintro e w2 ⟨rfl, hb2⟩
  have hO := hO.below hb2
  have hB := hB.trans (hb2.mono hB.size)
  clear hb2
  obtain ⟨hy1, o1, o2, o3, o4⟩ := id hO
  go_wp2
  exact bodyPost_ret (v := .agg #[.int .i64 0, .int .i64 n]) (by simp [results, Try.results48, go_sem, o1, o2, hy1]) rfl ⟨rfl, by (repeat' (first | (with_reducible exact Below.refl _ _) | (with_reducible assumption) | (with_reducible refine Below.alloc ?_ ?_ _) | (with_reducible refine Below.drew ?_) | (with_reducible refine below_drewN ?_ _) | (with_reducible refine Below.setCell ?_ ?_ _) | (exact Below.size (by with_reducible assumption)) | go_size))⟩

theorem root_step (n r k : Nat) (hk : k < 60) (hr : r % 2 ^ (k + 1) = 0) (h1 : r * r ≤ n) (h2 : n < (r + 2 ^ (k + 1)) * (r + 2 ^ (k + 1))) :
    ((r + 2 ^ k) * (r + 2 ^ k) ≤ n → (r + 2 ^ k) % 2 ^ k = 0 ∧ n < (r + 2 ^ k + 2 ^ k) * (r + 2 ^ k + 2 ^ k)) ∧ (n < (r + 2 ^ k) * (r + 2 ^ k) → r % 2 ^ k = 0) := by
  have e : 2 ^ (k + 1) = 2 ^ k + 2 ^ k := by rw [Nat.pow_succ]; omega
  have hm : r % 2 ^ k = 0 := by
    have : 2 ^ k ∣ 2 ^ (k + 1) := ⟨2, by rw [Nat.pow_succ]⟩
    exact Nat.mod_eq_zero_of_dvd (Nat.dvd_trans this (Nat.dvd_of_mod_eq_zero hr))
  refine ⟨fun h => ⟨by rw [Nat.add_mod_right]; exact hm, by rw [e, ← Nat.add_assoc] at h2; exact h2⟩, fun _ => hm⟩

theorem root_uniq {n r s : Nat} (h1 : r * r ≤ n) (h2 : n < (r + 1) * (r + 1)) (h3 : s * s ≤ n) (h4 : n < (s + 1) * (s + 1)) : r = s := by
  rcases Nat.lt_trichotomy r s with h | h | h
  · have := Nat.mul_le_mul (show r + 1 ≤ s by omega) (show r + 1 ≤ s by omega); omega
  · exact h
  · have := Nat.mul_le_mul (show s + 1 ≤ r by omega) (show s + 1 ≤ r by omega); omega

theorem root_ex (n : Nat) : ∃ r, r * r ≤ n ∧ n < (r + 1) * (r + 1) := by
  induction n with
  | zero => exact ⟨0, by omega, by omega⟩
  | succ n ih =>
    obtain ⟨r, h1, h2⟩ := ih
    by_cases h : n + 1 < (r + 1) * (r + 1)
    · exact ⟨r, by omega, h⟩
    · exact ⟨r + 1, by omega, by have : (r + 1) * (r + 1) < (r + 1 + 1) * (r + 1 + 1) := Nat.mul_lt_mul'' (by omega) (by omega); omega⟩
end Go.Proofs.Ytcabnkclelgoeaa
