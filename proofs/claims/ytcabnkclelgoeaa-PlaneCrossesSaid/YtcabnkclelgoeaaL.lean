/- Walk of wide.Root. -/
import Derived.Test.YtcabnkclelgoeaaI
namespace Go.Proofs.Ytcabnkclelgoeaa
set_option linter.unusedSimpArgs false
set_option linter.unusedVariables false
open Go.ChangeShapes Go.WideShapes Go.ChangeAt Go.RowKit

theorem wvalid_any (n : Nat) (w : World) (h2 : n < 1152921504606846976) :
    Calls Try.prog 66 #[.agg #[.int .i64 0, .int .i64 n]] w fun e w' => e = .returned (.bool true) ∧ Below w.heap.size w w' := by
  go_enter Try.func66, Try.ntmps66
  go_wp2
  go_returns
  exact ⟨ret_bool (by apply bool_eq; simp; omega), by (repeat' (first | (with_reducible exact Below.refl _ _) | (with_reducible assumption) | (with_reducible refine Below.alloc ?_ ?_ _) | (with_reducible refine Below.drew ?_) | (with_reducible refine below_drewN ?_ _) | (with_reducible refine Below.setCell ?_ ?_ _) | (exact Below.size (by with_reducible assumption)) | go_size))⟩

theorem value_any (n : Nat) (w : World) (h2 : n < 1152921504606846976) :
    Calls Try.prog 67 #[.agg #[.int .i64 0, .int .i64 n]] w fun e w' => e = .returned (.agg #[.int .u64 0, .int .u64 n, .bool false]) ∧ Below w.heap.size w w' := by
  have h5 := or_zero_left n (by omega)
  go_enter Try.func67, Try.ntmps67
  go_wp2
  go_returns
  exact ⟨rfl, by (repeat' (first | (with_reducible exact Below.refl _ _) | (with_reducible assumption) | (with_reducible refine Below.alloc ?_ ?_ _) | (with_reducible refine Below.drew ?_) | (with_reducible refine below_drewN ?_ _) | (with_reducible refine Below.setCell ?_ ?_ _) | (exact Below.size (by with_reducible assumption)) | go_size))⟩

set_option maxHeartbeats 400000 in
theorem root_any (n r : Nat) (w : World) (h2 : n < 1152921504606846976) (hr1 : r * r ≤ n) (hr2 : n < (r + 1) * (r + 1)) :
    Calls Try.prog 47 #[.agg #[.int .i64 0, .int .i64 n]] w fun e w' => e = .returned (.tuple #[.int .i64 r, .int .i64 0]) ∧ Below w.heap.size w w' := by
  have HV := Lib.hid (fun W => wvalid_any n W h2)
  have HA := Lib.hid (fun W => value_any n W h2)
  have HR := Lib.hid (And.intro hr1 hr2)
  clear hr1 hr2
  go_enter Try.func47, Try.ntmps47
  go_wp2_with fail
  refine (HV.out _).mono ?_
  rintro e wn ⟨rfl, hb1⟩
  have hO := (Out.start w 69 0 n w.heap.size rfl).below hb1
  have hB := (show Below w.heap.size w _ from by (repeat' (first | (with_reducible exact Below.refl _ _) | (with_reducible assumption) | (with_reducible refine Below.alloc ?_ ?_ _) | (with_reducible refine Below.drew ?_) | (with_reducible refine below_drewN ?_ _) | (with_reducible refine Below.setCell ?_ ?_ _) | (exact Below.size (by with_reducible assumption)) | go_size))).trans (hb1.mono (by simp))
  clear hb1
  obtain ⟨hy1, o1, o2, o3, o4⟩ := id hO
  go_wp2_with fail
  refine (HA.out _).mono ?_
  rintro e w2 ⟨rfl, hb2⟩
  have hB := hB.trans (hb2.mono hB.size)
  clear hb2
  go_wp2_with fail
  obtain ⟨W, hW, hBW⟩ : ∃ W, W = w2.alloc (Obj.cells #[Value.int IntKind.u64 0, Value.int IntKind.u64 n, Value.bool false] 87) ∧ Below w.heap.size w W := ⟨_, rfl, hB.alloc hB.size _⟩
  have b1 : W.cell? ⟨w2.heap.size, 0, none⟩ = some (.int .u64 0) := by rw [hW]; go_simp
  have b2 : W.cell? ⟨w2.heap.size, 1, none⟩ = some (.int .u64 n) := by rw [hW]; go_simp
  rw [← hW]
  clear hW hB o1 o2 o3 o4 hy1 hO
  go_loop [5, 6] (fun v5 v6 => ∃ k q : Nat, k ≤ 60 ∧ q % 2 ^ k = 0 ∧ q * q ≤ n ∧ n < (q + 2 ^ k) * (q + 2 ^ k) ∧ v5 = .int .u64 q ∧ v6 = .int .u64 ((2 ^ k / 2 : Nat) : Int)) (fun v5 v6 => (intOf v6).toNat)
  case atStart => exact ⟨60, 0, by omega, by simp, by omega, by simp; omega, rfl, by simp⟩
  case round =>
    obtain ⟨k, q, hk, hq1, hq2, hq3, rfl, rfl⟩ := hrel
    have hq4 : q < 1152921504606846976 := by
      have : q ≤ q * q := Nat.le_mul_self q
      omega
    cases k with
    | zero =>
      have hz : ((2 ^ 0 / 2 : Nat) : Int) = 0 := by simp
      rw [hz]
      have hqr : Hid (q = r) := Lib.hid (root_uniq hq2 (by simpa using hq3) HR.out.1 HR.out.2)
      clear hz hq1 hq2 hq3
      go_wp2
      go_returns
      exact ⟨by first | (rw [hqr.out]; done) | (rw [hqr.out]; rfl), hBW⟩
    | succ k =>
      have hd : 2 ^ (k + 1) / 2 = 2 ^ k := by rw [Nat.pow_succ]; omega
      rw [hd]
      have hp := Nat.two_pow_pos k
      have hp2 : 2 ^ k ≤ 2 ^ 59 := Nat.pow_le_pow_right (by omega) (by omega)
      have hp3 : 2 ^ k ≤ 576460752303423488 := by omega
      have hj := or_join q k (by omega) hq1 hq4
      have hst := Lib.hid (root_step n q k (by omega) hq1 hq2 hq3)
      have hM := Lib.hid (fun W => mul64 (q + 2 ^ k) (q + 2 ^ k) (by omega) (by omega) W)
      have hq2' := Lib.hid hq2
      have hm : 2 ^ k / 2 < 2 ^ k := by omega
      have hdk : Hid (((2 ^ k / 2 : Nat) : Int) = ((2 ^ k : Nat) : Int) / 2) := Lib.hid (by rw [Int.natCast_ediv]; rfl)
      clear hd hq1 hq2 hq3 hp2
      generalize hpk : 2 ^ k = b at *
      have hpk := Lib.hid hpk
      by_cases hle : (q + b) * (q + b) ≤ n
      · have h0 : (q + b) * (q + b) / 18446744073709551616 = 0 := Nat.div_eq_of_lt (by omega)
        have h1 : (q + b) * (q + b) % 18446744073709551616 = (q + b) * (q + b) := Nat.mod_eq_of_lt (by omega)
        rw [h0, h1] at hM
        clear h0 h1
        obtain ⟨s, hs⟩ : ∃ s, Hid ((q + b) * (q + b) = s) := ⟨_, Lib.hid rfl⟩
        have hle' : s ≤ n := by rw [← hs.out]; exact hle
        rw [hs.out] at hM
        have hle := Lib.hid hle
        go_wp2_with fail
        refine (hM.out _).mono ?_
        rintro e w3 ⟨rfl, rfl⟩
        go_wp2
        go_round
        case rel =>
          refine ⟨k, q + b, by omega, ?_, hle.out, ?_, rfl, ?_⟩
          · rw [hpk.out]; exact (hst.out.1 hle.out).1
          · rw [hpk.out]; exact (hst.out.1 hle.out).2
          · rw [hpk.out, hdk.out]
        case measure => simp [intOf]; omega
      · have hbig : (q + b) * (q + b) < 340282366920938463463374607431768211456 := by
          have : (q + b) * (q + b) ≤ 1729382256910270464 * 1729382256910270464 := Nat.mul_le_mul (by omega) (by omega)
          omega
        obtain ⟨hi, hhi⟩ : ∃ s, (q + b) * (q + b) / 18446744073709551616 = s := ⟨_, rfl⟩
        obtain ⟨lo, hlo⟩ : ∃ s, (q + b) * (q + b) % 18446744073709551616 = s := ⟨_, rfl⟩
        have hlo2 : lo < 18446744073709551616 := by rw [← hlo]; exact Nat.mod_lt _ (by omega)
        have hhi2 : hi < 18446744073709551616 := by rw [← hhi]; omega
        have hcase : 0 < hi ∨ n < lo := by
          rcases Nat.eq_zero_or_pos hi with h | h
          · right; omega
          · left; exact h
        rw [hhi, hlo] at hM
        have hle := Lib.hid (show n < (q + b) * (q + b) by omega)
        clear hhi hlo hbig
        rcases hcase with hc | hc
        · have e1 : ((hi : Int) == 0) = false := by rw [beq_eq_false_iff_ne]; omega
          go_wp2_with fail
          refine (hM.out _).mono ?_
          rintro e w3 ⟨rfl, rfl⟩
          go_wp2
          go_round
          case rel =>
            refine ⟨k, q, by omega, ?_, hq2'.out, ?_, rfl, ?_⟩
            · rw [hpk.out]; exact hst.out.2 hle.out
            · rw [hpk.out]; exact hle.out
            · rw [hpk.out, hdk.out]
          case measure => simp [intOf]; omega
        · by_cases hz : hi = 0
          · subst hz
            go_wp2_with fail
            refine (hM.out _).mono ?_
            rintro e w3 ⟨rfl, rfl⟩
            go_wp2
            go_round
            case rel =>
              refine ⟨k, q, by omega, ?_, hq2'.out, ?_, rfl, ?_⟩
              · rw [hpk.out]; exact hst.out.2 hle.out
              · rw [hpk.out]; exact hle.out
              · rw [hpk.out, hdk.out]
            case measure => simp [intOf]; omega
          · have e1 : ((hi : Int) == 0) = false := by rw [beq_eq_false_iff_ne]; omega
            go_wp2_with fail
            refine (hM.out _).mono ?_
            rintro e w3 ⟨rfl, rfl⟩
            go_wp2
            go_round
            case rel =>
              refine ⟨k, q, by omega, ?_, hq2'.out, ?_, rfl, ?_⟩
              · rw [hpk.out]; exact hst.out.2 hle.out
              · rw [hpk.out]; exact hle.out
              · rw [hpk.out, hdk.out]
            case measure => simp [intOf]; omega
end Go.Proofs.Ytcabnkclelgoeaa
