/- Walks of package ratio as far as Cut reaches it. -/
import Derived.Test.YtcabnkclelgoeaaC
namespace Go.Proofs.Ytcabnkclelgoeaa
open Go.ChangeShapes Go.WideShapes Go.ChangeAt Go.RowKit

theorem rsize_any (n : Int) (w : World) (h : 0 ≤ n) (h2 : n ≤ 4611686018427387904) :
    Calls Try.prog 62 #[.int .i64 n] w fun e w' => e = .returned (.int .u64 n) ∧ w = w' := by
  go_enter Try.func62, Try.ntmps62
  go_wp2
  go_returns
  exact ⟨rfl, rfl⟩

theorem common_any (a b : Nat) (w : World) (ha : a ≤ 4611686018427387904) (hb : b ≤ 4611686018427387904) :
    Calls Try.prog 63 #[.int .u64 a, .int .u64 b] w fun e w' => e = .returned (.int .u64 (Nat.gcd a b)) ∧ ∃ n, w' = w.drewN n := by
  go_enter Try.func63, Try.ntmps63
  go_wp2
  go_loopw [0, 1] (fun v0 v1 wr => ∃ x y : Nat, x ≤ 4611686018427387904 ∧ y ≤ 4611686018427387904 ∧ v0 = .int .u64 x ∧ v1 = .int .u64 y ∧ Hid (Nat.gcd x y = Nat.gcd a b) ∧ ∃ n, wr = w.drewN n) (fun v0 v1 _ => (intOf v1).toNat)
  case atStart => exact ⟨a, b, ha, hb, rfl, rfl, Lib.hid rfl, 0, rfl⟩
  case round =>
    obtain ⟨x, y, hx, hy, rfl, rfl, hg, n, rfl⟩ := hrel
    by_cases h0 : y = 0
    · subst h0
      have h1 : ((0 : Nat) : Int) = 0 := rfl
      go_wp2
      go_returns
      refine ⟨ret_int ?_, n, rfl⟩
      rw [← hg.out]; simp
    · have hyp : 0 < y := by omega
      have h1 : ((y : Int) != 0) = true := by rw [bne_iff_ne]; omega
      have h2 : ((y : Int) == 0) = false := by rw [beq_eq_false_iff_ne]; omega
      go_wp2
      go_quiet (fail)
      go_roundw
      case rel =>
        have hlt := Nat.mod_lt x hyp
        refine ⟨_, _, _, _, _, _, _, _, ⟨y, x % y, by omega, by omega, rfl, by rw [Int.natCast_emod], Lib.hid ?_, n + nq, by rw [World.drewN_drewN]⟩, rfl⟩
        rw [← hg.out, Nat.gcd_comm x y, Nat.gcd_rec y x, Nat.gcd_comm]
      case measure =>
        have hlt := Nat.mod_lt x hyp
        simp [intOf]; omega

theorem make_big1 (n d : Nat) (w : World) (hn : n ≤ 4611686018427387904) (hd : d ≤ 4611686018427387904) (h0 : 0 < d) (h1 : 1073741824 < n / Nat.gcd n d) :
    Calls Try.prog 43 #[.int .i64 n, .int .i64 d] w fun e w' => e = .returned (.tuple #[.agg #[.int .i64 0, .int .i64 0], .int .i64 5]) ∧ Below w.heap.size w w' := by
  have hg : 0 < Nat.gcd n d := Nat.gcd_pos_of_pos_right _ h0
  have H := Lib.hid (fun W => common_any n d W hn hd)
  have hgd : Nat.gcd n d ≤ d := Nat.gcd_le_right n h0
  have hq1 : n / Nat.gcd n d ≤ n := Nat.div_le_self _ _
  have hq2 : d / Nat.gcd n d ≤ d := Nat.div_le_self _ _
  generalize Nat.gcd n d = g at *
  have hb : ((d : Int) == 0) = false := by rw [beq_eq_false_iff_ne]; omega
  have hbg : ((g : Int) == 0) = false := by rw [beq_eq_false_iff_ne]; omega
  have e1 : (0 : Int) ≤ (n : Int) / (g : Int) := Int.ediv_nonneg (by omega) (by omega)
  have e2 : (n : Int) / (g : Int) ≤ 4611686018427387904 := by rw [← Int.natCast_ediv]; omega
  have e3 : (0 : Int) ≤ (d : Int) / (g : Int) := Int.ediv_nonneg (by omega) (by omega)
  have e4 : (d : Int) / (g : Int) ≤ 4611686018427387904 := by rw [← Int.natCast_ediv]; omega
  have z1 : decide ((n : Int) < 0) = false := by simp
  have z2 : decide ((d : Int) < 0) = false := by simp
  have k1 : (1073741824 : Int) < (n : Int) / (g : Int) := by rw [← Int.natCast_ediv]; omega
  go_enter Try.func43, Try.ntmps43
  go_wp2_with (first | (go_at_call 62; (with_reducible refine (rsize_any _ _ (by omega) (by omega)).mono ?_); rintro e w' ⟨rfl, rfl⟩) | (go_at_call 63; (with_reducible refine (H.out _).mono ?_); rintro e w' ⟨rfl, k, rfl⟩))
  go_quiet (fail)
  go_wp2
  go_returns
  exact ⟨rfl, by (repeat' (first | (with_reducible exact Below.refl _ _) | (with_reducible assumption) | (with_reducible refine Below.alloc ?_ ?_ _) | (with_reducible refine Below.drew ?_) | (with_reducible refine below_drewN ?_ _) | (with_reducible refine Below.setCell ?_ ?_ _) | go_size))⟩
theorem make_big2 (n d : Nat) (w : World) (hn : n ≤ 4611686018427387904) (hd : d ≤ 4611686018427387904) (h0 : 0 < d) (h1 : n / Nat.gcd n d ≤ 1073741824) (h2 : 1073741824 < d / Nat.gcd n d) :
    Calls Try.prog 43 #[.int .i64 n, .int .i64 d] w fun e w' => e = .returned (.tuple #[.agg #[.int .i64 0, .int .i64 0], .int .i64 5]) ∧ Below w.heap.size w w' := by
  have hg : 0 < Nat.gcd n d := Nat.gcd_pos_of_pos_right _ h0
  have H := Lib.hid (fun W => common_any n d W hn hd)
  have hgd : Nat.gcd n d ≤ d := Nat.gcd_le_right n h0
  have hq1 : n / Nat.gcd n d ≤ n := Nat.div_le_self _ _
  have hq2 : d / Nat.gcd n d ≤ d := Nat.div_le_self _ _
  generalize Nat.gcd n d = g at *
  have hb : ((d : Int) == 0) = false := by rw [beq_eq_false_iff_ne]; omega
  have hbg : ((g : Int) == 0) = false := by rw [beq_eq_false_iff_ne]; omega
  have e1 : (0 : Int) ≤ (n : Int) / (g : Int) := Int.ediv_nonneg (by omega) (by omega)
  have e2 : (n : Int) / (g : Int) ≤ 4611686018427387904 := by rw [← Int.natCast_ediv]; omega
  have e3 : (0 : Int) ≤ (d : Int) / (g : Int) := Int.ediv_nonneg (by omega) (by omega)
  have e4 : (d : Int) / (g : Int) ≤ 4611686018427387904 := by rw [← Int.natCast_ediv]; omega
  have z1 : decide ((n : Int) < 0) = false := by simp
  have z2 : decide ((d : Int) < 0) = false := by simp
  have k1 : (n : Int) / (g : Int) ≤ 1073741824 := by rw [← Int.natCast_ediv]; omega
  have k2 : (1073741824 : Int) < (d : Int) / (g : Int) := by rw [← Int.natCast_ediv]; omega
  go_enter Try.func43, Try.ntmps43
  go_wp2_with (first | (go_at_call 62; (with_reducible refine (rsize_any _ _ (by omega) (by omega)).mono ?_); rintro e w' ⟨rfl, rfl⟩) | (go_at_call 63; (with_reducible refine (H.out _).mono ?_); rintro e w' ⟨rfl, k, rfl⟩))
  go_quiet (fail)
  go_wp2
  go_returns
  exact ⟨rfl, by (repeat' (first | (with_reducible exact Below.refl _ _) | (with_reducible assumption) | (with_reducible refine Below.alloc ?_ ?_ _) | (with_reducible refine Below.drew ?_) | (with_reducible refine below_drewN ?_ _) | (with_reducible refine Below.setCell ?_ ?_ _) | go_size))⟩
theorem make_ok (n d : Nat) (w : World) (hn : n ≤ 4611686018427387904) (hd : d ≤ 4611686018427387904) (h0 : 0 < d) (h1 : n / Nat.gcd n d ≤ 1073741824) (h2 : d / Nat.gcd n d ≤ 1073741824) :
    Calls Try.prog 43 #[.int .i64 n, .int .i64 d] w fun e w' => e = .returned (.tuple #[.agg #[.int .i64 (n / Nat.gcd n d : Nat), .int .i64 (d / Nat.gcd n d : Nat)], .int .i64 0]) ∧ Below w.heap.size w w' := by
  have hg : 0 < Nat.gcd n d := Nat.gcd_pos_of_pos_right _ h0
  have H := Lib.hid (fun W => common_any n d W hn hd)
  have hgd : Nat.gcd n d ≤ d := Nat.gcd_le_right n h0
  have hq1 : n / Nat.gcd n d ≤ n := Nat.div_le_self _ _
  have hq2 : d / Nat.gcd n d ≤ d := Nat.div_le_self _ _
  generalize Nat.gcd n d = g at *
  have hb : ((d : Int) == 0) = false := by rw [beq_eq_false_iff_ne]; omega
  have hbg : ((g : Int) == 0) = false := by rw [beq_eq_false_iff_ne]; omega
  have e1 : (0 : Int) ≤ (n : Int) / (g : Int) := Int.ediv_nonneg (by omega) (by omega)
  have e2 : (n : Int) / (g : Int) ≤ 4611686018427387904 := by rw [← Int.natCast_ediv]; omega
  have e3 : (0 : Int) ≤ (d : Int) / (g : Int) := Int.ediv_nonneg (by omega) (by omega)
  have e4 : (d : Int) / (g : Int) ≤ 4611686018427387904 := by rw [← Int.natCast_ediv]; omega
  have z1 : decide ((n : Int) < 0) = false := by simp
  have z2 : decide ((d : Int) < 0) = false := by simp
  have k1 : (n : Int) / (g : Int) ≤ 1073741824 := by rw [← Int.natCast_ediv]; omega
  have k2 : (d : Int) / (g : Int) ≤ 1073741824 := by rw [← Int.natCast_ediv]; omega
  go_enter Try.func43, Try.ntmps43
  go_wp2_with (first | (go_at_call 62; (with_reducible refine (rsize_any _ _ (by omega) (by omega)).mono ?_); rintro e w' ⟨rfl, rfl⟩) | (go_at_call 63; (with_reducible refine (H.out _).mono ?_); rintro e w' ⟨rfl, k, rfl⟩))
  go_quiet (fail)
  go_wp2
  go_returns
  exact ⟨rfl, by (repeat' (first | (with_reducible exact Below.refl _ _) | (with_reducible assumption) | (with_reducible refine Below.alloc ?_ ?_ _) | (with_reducible refine Below.drew ?_) | (with_reducible refine below_drewN ?_ _) | (with_reducible refine Below.setCell ?_ ?_ _) | go_size))⟩
end Go.Proofs.Ytcabnkclelgoeaa
