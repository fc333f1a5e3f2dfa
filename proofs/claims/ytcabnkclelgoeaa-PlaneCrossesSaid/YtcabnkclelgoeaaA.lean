/- Walks of the leaves of package plane and of its reference: what they return, and that they turn no old memory. -/
import Derived.Test.YtcabnkclelgoeaaM
import Derived.OpenShut
import Derived.Lib.Hide
namespace Go.Proofs.Ytcabnkclelgoeaa
open Go.ChangeShapes Go.WideShapes Go.ChangeAt Go.RowKit
abbrev pt (x y : Int) : Value := .agg #[.int .i64 x, .int .i64 y]

theorem valid_any (x y : Int) (w : World) :
    Calls Try.prog 17 #[pt x y] w fun e w' => e = .returned (.bool (okP (x, y))) ∧ Below w.heap.size w w' := by
  go_enter Try.func17, Try.ntmps17
  go_wp2
  all_goals (go_returns; exact ⟨ret_bool (by rw [Bool.eq_iff_iff]; simp [okP]; omega), by go_grown⟩)
theorem rvalid_any (x y : Int) (w : World) :
    Calls Try.prog 22 #[pt x y] w fun e w' => e = .returned (.bool (okP (x, y))) ∧ Below w.heap.size w w' := by
  go_enter Try.func22, Try.ntmps22
  go_wp2
  all_goals (go_returns; exact ⟨ret_bool (by rw [Bool.eq_iff_iff]; simp [okP]; omega), by go_grown⟩)
theorem invalid_any (x y : Int) (w : World) :
    Calls Try.prog 61 #[pt x y] w fun e w' => e = .returned (.bool (!okP (x, y))) ∧ Below w.heap.size w w' := by
  go_enter Try.func61, Try.ntmps61
  go_wp2_with (go_at_call 17; refine (valid_any _ _ _).mono ?_; rintro e w' ⟨rfl, hb⟩)
  go_returns
  exact ⟨rfl, (by go_grown : Below w.heap.size w _).trans (hb.mono (by simp))⟩

/-- the cells of a list of points -/
def PtsAt (w : World) (b off : Nat) (l : List (Int × Int)) : Prop :=
  ∀ i, i < l.length → w.cell? ⟨b, off + i * 2, none⟩ = some (.int .i64 (l.getD i (0, 0)).1) ∧ w.cell? ⟨b, off + i * 2 + 1, none⟩ = some (.int .i64 (l.getD i (0, 0)).2)

theorem PtsAt.below {w w' : World} {b off B : Nat} {l : List (Int × Int)} (h : PtsAt w b off l) (hb : Below B w w') (hB : b < B) : PtsAt w' b off l := by
  intro i hi
  rw [hb.cell (by simpa using hB), hb.cell (by simpa using hB)]
  exact h i hi

set_option maxHeartbeats 400000 in
theorem idx_any (b off n cap : Nat) (l : List (Int × Int)) (w : World) (hn : n = l.length) (hm : n ≤ maxLen) (hbw : b < w.heap.size) (hp : PtsAt w b off l) :
    Calls Try.prog 59 #[.slice (some ⟨b, off, none⟩) n cap, .func (.func 61) #[] #[]] w fun e w' => e = .returned (.int .i64 (firstBad l)) ∧ Below w.heap.size w w' := by
  have Hn := Lib.hid hn
  have Hp := Lib.hid hp
  unfold maxLen at hm
  clear hn hp
  go_enter Try.func59, Try.ntmps59
  go_wp2
  go_loopw [8] (fun v8 wr => ∃ k : Nat, k ≤ n ∧ v8 = .int .i64 k ∧ Below w.heap.size w wr ∧ (∀ i, i < k → okP (l.getD i (0, 0)) = true)) (fun v8 _ => n - (intOf v8).toNat)
  case atStart => exact ⟨0, by omega, rfl, Below.refl _ _, by omega⟩
  case round =>
    obtain ⟨k, hk, rfl, hb, hall⟩ := hrel
    have Hall := Lib.hid hall
    clear hall
    by_cases hlt : k < n
    · have hpk := (Hp.out.below hb hbw) k (by rw [← Hn.out]; exact hlt)
      obtain ⟨hc1, hc2⟩ := hpk
      have Hq : ∃ q, Hid (l.getD k (0, 0) = q) := ⟨_, Lib.hid rfl⟩
      obtain ⟨q, Hq⟩ := Hq
      rw [Hq.out] at hc1 hc2
      have hs := hb.size
      go_wp2_with (go_at_call 61; refine (invalid_any _ _ _).mono ?_; rintro e w1 ⟨rfl, hb1⟩)
      · go_returns
        have hq : (!okP (q.1, q.2)) = true := by assumption
        refine ⟨ret_int ?_, hb.trans (hb1.mono hs)⟩
        exact (firstBad_some l k (by rw [← Hn.out]; exact hlt) Hall.out (by rw [Hq.out]; simpa using hq)).1.symm
      · have hq : (!okP (q.1, q.2)) = false := by assumption
        go_roundw
        case rel =>
          refine ⟨k + 1, by omega, by go_num, hb.trans (hb1.mono hs), fun i hi => ?_⟩
          by_cases e : i = k
          · rw [e, Hq.out]; simpa using hq
          · exact Hall.out i (by omega)
        case measure => simp [intOf]; omega
    · go_wp2
      go_returns
      exact ⟨ret_int (firstBad_none l (fun i hi => Hall.out i (by rw [← Hn.out] at hi; omega))).1.symm, hb⟩
theorem bad_iff (l : List (Int × Int)) : decide (0 ≤ firstBad l) = !l.all okP := by
  induction l with
  | nil => rfl
  | cons p l ih =>
    cases h : okP p
    · simp [firstBad, h]
    · simp only [firstBad, h, List.all_cons, Bool.true_and, ← ih]
      by_cases h2 : firstBad l < 0
      · simp [h2]
      · simp [h2]; omega
theorem cont_any (b off n cap : Nat) (l : List (Int × Int)) (w : World) (hn : n = l.length) (hm : n ≤ maxLen) (hbw : b < w.heap.size) (hp : PtsAt w b off l) :
    Calls Try.prog 35 #[.slice (some ⟨b, off, none⟩) n cap, .func (.func 61) #[] #[]] w fun e w' => e = .returned (.bool (!l.all okP)) ∧ Below w.heap.size w w' := by
  have h := idx_any b off n cap l w hn hm hbw hp
  have H := Lib.hid h
  clear h hp hn
  go_enter Try.func35, Try.ntmps35
  go_wp2_with (go_at_call 59; refine (H.out).mono ?_; rintro e w1 ⟨rfl, hb1⟩)
  go_returns
  exact ⟨ret_bool (bad_iff l), hb1⟩
theorem all_any (b off n cap : Nat) (l : List (Int × Int)) (w : World) (hn : n = l.length) (hm : n ≤ maxLen) (hbw : b < w.heap.size) (hp : PtsAt w b off l) :
    Calls Try.prog 39 #[.slice (some ⟨b, off, none⟩) n cap] w fun e w' => e = .returned (.bool (l.all okP)) ∧ Below w.heap.size w w' := by
  have h := cont_any b off n cap l w hn hm hbw hp
  have H := Lib.hid h
  clear h hp hn
  go_enter Try.func39, Try.ntmps39
  go_wp2_with (go_at_call 35; refine (H.out).mono ?_; rintro e w1 ⟨rfl, hb1⟩)
  go_returns
  exact ⟨ret_bool (by simp), hb1⟩

/-- 2 boxed points: the world under one name -/
theorem boxes2 (w : World) (t : TypeId) (a1 a2 b1 b2 : Int) : ∃ W, W = ((w.alloc (.cells #[.int .i64 a1, .int .i64 a2] t)).alloc (.cells #[.int .i64 b1, .int .i64 b2] t)) ∧ Below w.heap.size w W ∧ W.heap.size = w.heap.size + 2 ∧ W.cell? ⟨w.heap.size, 0, none⟩ = some (.int .i64 a1) ∧ W.cell? ⟨w.heap.size, 1, none⟩ = some (.int .i64 a2) ∧ W.frozen? ⟨w.heap.size, 0, none⟩ = false ∧ W.frozen? ⟨w.heap.size, 1, none⟩ = false ∧ W.cell? ⟨w.heap.size + 1, 0, none⟩ = some (.int .i64 b1) ∧ W.cell? ⟨w.heap.size + 1, 1, none⟩ = some (.int .i64 b2) ∧ W.frozen? ⟨w.heap.size + 1, 0, none⟩ = false ∧ W.frozen? ⟨w.heap.size + 1, 1, none⟩ = false := by
  refine ⟨_, rfl, by go_grown, by simp, ?_⟩
  refine ⟨?_, ?_, ?_, ?_, ?_, ?_, ?_, ?_⟩ <;> (go_simp; done)

/-- 3 boxed points: the world under one name -/
theorem boxes3 (w : World) (t : TypeId) (a1 a2 b1 b2 c1 c2 : Int) : ∃ W, W = (((w.alloc (.cells #[.int .i64 a1, .int .i64 a2] t)).alloc (.cells #[.int .i64 b1, .int .i64 b2] t)).alloc (.cells #[.int .i64 c1, .int .i64 c2] t)) ∧ Below w.heap.size w W ∧ W.heap.size = w.heap.size + 3 ∧ W.cell? ⟨w.heap.size, 0, none⟩ = some (.int .i64 a1) ∧ W.cell? ⟨w.heap.size, 1, none⟩ = some (.int .i64 a2) ∧ W.frozen? ⟨w.heap.size, 0, none⟩ = false ∧ W.frozen? ⟨w.heap.size, 1, none⟩ = false ∧ W.cell? ⟨w.heap.size + 1, 0, none⟩ = some (.int .i64 b1) ∧ W.cell? ⟨w.heap.size + 1, 1, none⟩ = some (.int .i64 b2) ∧ W.frozen? ⟨w.heap.size + 1, 0, none⟩ = false ∧ W.frozen? ⟨w.heap.size + 1, 1, none⟩ = false ∧ W.cell? ⟨w.heap.size + 1 + 1, 0, none⟩ = some (.int .i64 c1) ∧ W.cell? ⟨w.heap.size + 1 + 1, 1, none⟩ = some (.int .i64 c2) ∧ W.frozen? ⟨w.heap.size + 1 + 1, 0, none⟩ = false ∧ W.frozen? ⟨w.heap.size + 1 + 1, 1, none⟩ = false := by
  refine ⟨_, rfl, by go_grown, by simp, ?_⟩
  refine ⟨?_, ?_, ?_, ?_, ?_, ?_, ?_, ?_, ?_, ?_, ?_, ?_⟩ <;> (go_simp; done)

/-- 4 boxed points: the world under one name -/
theorem boxes4 (w : World) (t : TypeId) (a1 a2 b1 b2 c1 c2 d1 d2 : Int) : ∃ W, W = ((((w.alloc (.cells #[.int .i64 a1, .int .i64 a2] t)).alloc (.cells #[.int .i64 b1, .int .i64 b2] t)).alloc (.cells #[.int .i64 c1, .int .i64 c2] t)).alloc (.cells #[.int .i64 d1, .int .i64 d2] t)) ∧ Below w.heap.size w W ∧ W.heap.size = w.heap.size + 4 ∧ W.cell? ⟨w.heap.size, 0, none⟩ = some (.int .i64 a1) ∧ W.cell? ⟨w.heap.size, 1, none⟩ = some (.int .i64 a2) ∧ W.frozen? ⟨w.heap.size, 0, none⟩ = false ∧ W.frozen? ⟨w.heap.size, 1, none⟩ = false ∧ W.cell? ⟨w.heap.size + 1, 0, none⟩ = some (.int .i64 b1) ∧ W.cell? ⟨w.heap.size + 1, 1, none⟩ = some (.int .i64 b2) ∧ W.frozen? ⟨w.heap.size + 1, 0, none⟩ = false ∧ W.frozen? ⟨w.heap.size + 1, 1, none⟩ = false ∧ W.cell? ⟨w.heap.size + 1 + 1, 0, none⟩ = some (.int .i64 c1) ∧ W.cell? ⟨w.heap.size + 1 + 1, 1, none⟩ = some (.int .i64 c2) ∧ W.frozen? ⟨w.heap.size + 1 + 1, 0, none⟩ = false ∧ W.frozen? ⟨w.heap.size + 1 + 1, 1, none⟩ = false ∧ W.cell? ⟨w.heap.size + 1 + 1 + 1, 0, none⟩ = some (.int .i64 d1) ∧ W.cell? ⟨w.heap.size + 1 + 1 + 1, 1, none⟩ = some (.int .i64 d2) ∧ W.frozen? ⟨w.heap.size + 1 + 1 + 1, 0, none⟩ = false ∧ W.frozen? ⟨w.heap.size + 1 + 1 + 1, 1, none⟩ = false := by
  refine ⟨_, rfl, by go_grown, by simp, ?_⟩
  refine ⟨?_, ?_, ?_, ?_, ?_, ?_, ?_, ?_, ?_, ?_, ?_, ?_, ?_, ?_, ?_, ?_⟩ <;> (go_simp; done)
end Go.Proofs.Ytcabnkclelgoeaa
