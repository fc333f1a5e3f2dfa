/- Walk of Twice. -/
import Derived.Test.YtcabnkclelgoeaaN
import Derived.Deep.RegionHeld3
import Derived.Deep.DrawnRows
namespace Go.Proofs.Ytcabnkclelgoeaa
set_option linter.unusedSimpArgs false
set_option linter.unusedVariables false
attribute [local go_sem ↓] Go.wp_at_zero Go.wp_at_succ
open Go.ChangeShapes Go.WideShapes Go.ChangeAt Go.RowKit

theorem twice_bad (b off n cap : Nat) (l : List (Int × Int)) (w : World) (hn : n = l.length) (hm : n ≤ maxLen) (hbw : b < w.heap.size) (hp : PtsAt w b off l) (he : polyE l ≠ 0) :
    Calls Try.prog 28 #[.slice (some ⟨b, off, none⟩) n cap] w fun e w' => e = .returned (.tuple #[.int .i64 0, .int .i64 (polyE l)]) ∧ Below w.heap.size w w' := by
  have H := Lib.hid (poly_any b off n cap l w hn hm hbw hp)
  unfold maxLen at hm
  clear hn hp
  generalize polyE l = q at *
  have h1 : (q == 0) = false := by simpa using he
  have h2 : (q != 0) = true := by simpa using he
  clear he
  go_enter Try.func28, Try.ntmps28
  go_wp2_with fail
  refine (H.out).mono ?_
  rintro e wn ⟨rfl, hbn⟩
  go_wp2
  go_returns
  exact ⟨rfl, hbn⟩

theorem polyE_zero {l : List (Int × Int)} (h : polyE l = 0) : l.all okP = true ∧ 3 ≤ l.length ∧ l.length ≤ 1000 := by
  unfold polyE at h
  split at h
  · omega
  · split at h
    · omega
    · split at h
      · omega
      · exact ⟨by simp_all, by omega, by omega⟩

set_option maxHeartbeats 1000000 in
theorem twice_ok (b off n cap : Nat) (l : List (Int × Int)) (w : World) (hn : n = l.length) (hm : n ≤ maxLen) (hbw : b < w.heap.size) (hp : PtsAt w b off l) (he : polyE l = 0) :
    Calls Try.prog 28 #[.slice (some ⟨b, off, none⟩) n cap] w fun e w' => e = .returned (.tuple #[.int .i64 (areaZ l), .int .i64 0]) ∧ Below w.heap.size w w' := by
  have H := Lib.hid (poly_any b off n cap l w hn hm hbw hp)
  have hE := polyE_zero he
  obtain ⟨hall, hn3, hn1000⟩ := hE
  have Hn := Lib.hid hn
  have Hp := Lib.hid hp
  have Hall := Lib.hid hall
  rw [he] at H
  rw [← hn] at hn3 hn1000
  clear hn hp he hall hm
  go_enter Try.func28, Try.ntmps28
  go_wp2_with fail
  refine (H.out).mono ?_
  rintro e wn ⟨rfl, hbn⟩
  have hsz := hbn.size
  go_wp2
  go_loopw [5, 6] (fun v5 v6 wr => ∃ j : Nat, 1 ≤ j ∧ j + 1 ≤ n ∧ v5 = .int .i64 (areaTo l (j - 1)) ∧ v6 = .int .i64 j ∧ Below w.heap.size w wr) (fun v5 v6 _ => n - (intOf v6).toNat)
  case atStart => exact ⟨1, by omega, by omega, rfl, rfl, hbn⟩
  case round =>
    obtain ⟨j, hj1, hj2, rfl, rfl, hB1⟩ := hrel
    have hbd := areaTo_bd Hall.out (j - 1) (by rw [← Hn.out]; omega) (by omega)
    obtain ⟨hbd1, hbd2⟩ := hbd
    by_cases hlt : j + 1 < n
    · have hs := hB1.size
      have c0 := (Hp.out.below hB1 hbw) 0 (by rw [← Hn.out]; omega)
      have c1 := (Hp.out.below hB1 hbw) j (by rw [← Hn.out]; omega)
      have c2 := (Hp.out.below hB1 hbw) (j + 1) (by rw [← Hn.out]; omega)
      have k0 := okP_getD Hall.out 0 (by rw [← Hn.out]; omega)
      have k1 := okP_getD Hall.out j (by rw [← Hn.out]; omega)
      have k2 := okP_getD Hall.out (j + 1) (by rw [← Hn.out]; omega)
      have hA : Hid (areaTo l j = areaTo l (j - 1) + turnZ (l.getD 0 (0, 0)) (l.getD j (0, 0)) (l.getD (j + 1) (0, 0))) := Lib.hid (by
        obtain ⟨i, rfl⟩ : ∃ i, j = i + 1 := ⟨j - 1, by omega⟩
        rfl)
      obtain ⟨p0, e0⟩ : ∃ p, l.getD 0 (0, 0) = p := ⟨_, rfl⟩
      obtain ⟨p1, e1⟩ : ∃ p, l.getD j (0, 0) = p := ⟨_, rfl⟩
      obtain ⟨p2, e2⟩ : ∃ p, l.getD (j + 1) (0, 0) = p := ⟨_, rfl⟩
      rw [e0] at c0 k0 hA
      rw [e1] at c1 k1 hA
      rw [e2] at c2 k2 hA
      clear e0 e1 e2
      have hT := Lib.hid (fun W => turn_ok p0.1 p0.2 p1.1 p1.2 p2.1 p2.2 W k0 k1 k2)
      obtain ⟨ht1, ht2⟩ := turnZ_bd k0 k1 k2
      clear k0 k1 k2
      obtain ⟨c01, c02⟩ := c0
      obtain ⟨c11, c12⟩ := c1
      obtain ⟨c21, c22⟩ := c2
      simp only [Nat.zero_mul, Nat.add_zero] at c01 c02
      have i1 : IntKind.i64.wrap ((j : Int) + 1) = (j : Int) + 1 := IntWalk.i64_in _ (by omega)
      have i2 : ((j : Int) + 1).toNat = j + 1 := by omega
      have i3 : (0 : Int) ≤ (j : Int) + 1 := by omega
      have i6 : (j : Int) < (n : Int) := by omega
      have i7 : ((j : Int) + 1) < (n : Int) := by omega
      have i9 : 0 < n := by omega
      go_wp2
      go_region_held3 (fun w' => w'.cell? ⟨b, off, none⟩ = some (.int .i64 p0.1) ∧ w'.cell? ⟨b, off + 1, none⟩ = some (.int .i64 p0.2) ∧ w'.cell? ⟨b, off + j * 2, none⟩ = some (.int .i64 p1.1) ∧ w'.cell? ⟨b, off + j * 2 + 1, none⟩ = some (.int .i64 p1.2) ∧ w'.cell? ⟨b, off + (j + 1) * 2, none⟩ = some (.int .i64 p2.1) ∧ w'.cell? ⟨b, off + (j + 1) * 2 + 1, none⟩ = some (.int .i64 p2.2))
        (first | go_keep | (refine ⟨(hbx.cell (by simp; omega)).trans c01, (hbx.cell (by simp; omega)).trans c02, (hbx.cell (by simp; omega)).trans c11, (hbx.cell (by simp; omega)).trans c12, (hbx.cell (by simp; omega)).trans c21, (hbx.cell (by simp; omega)).trans c22⟩))
        (first | (go_at_call 42; (with_reducible refine (hT.out _).mono ?_); rintro e wx ⟨rfl, hbx⟩))
      go_wp2
      go_roundw
      case rel => 
        refine ⟨j + 1, by omega, by omega, ?_, by go_num, hB1.drew.trans (hbx.mono hs)⟩
        rw [show j + 1 - 1 = j by omega, hA.out]
        show Value.int .i64 (IntKind.i64.wrap (areaTo l (j - 1) + turnZ p0 p1 p2)) = _
        rw [IntWalk.i64_in _ (by omega)]
      case measure => simp [intOf]; omega
    · have hj : j + 1 = n := by omega
      have hR : Hid (areaZ l = areaTo l (j - 1)) := Lib.hid (by unfold areaZ; rw [← Hn.out, ← hj]; rfl)
      clear hj
      go_wp2
      go_returns
      exact ⟨ret_ints hR.out.symm rfl, hB1⟩
end Go.Proofs.Ytcabnkclelgoeaa
