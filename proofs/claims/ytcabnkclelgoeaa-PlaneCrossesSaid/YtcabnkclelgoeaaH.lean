/- Walk of the reference's Cut; the plain laws of Cross and Cut. -/
import Derived.Test.YtcabnkclelgoeaaG
import Derived.Deep.Cut
namespace Go.Proofs.Ytcabnkclelgoeaa
set_option linter.unusedSimpArgs false
set_option linter.unusedVariables false
open Go.ChangeShapes Go.WideShapes Go.ChangeAt Go.RowKit

theorem apartB_iff (a b p q : Int × Int) : apartB a b p q = true ↔ cmpZ (turnZ a b p) 0 * cmpZ (turnZ a b q) 0 < 0 := by
  unfold apartB
  rw [decide_eq_true_iff]
  rcases cmpZ_cases (turnZ a b p) 0 with ⟨h, e⟩ | ⟨h, e⟩ | ⟨h, e⟩ <;> rcases cmpZ_cases (turnZ a b q) 0 with ⟨k, f⟩ | ⟨k, f⟩ | ⟨k, f⟩ <;> rw [e, f] <;> omega

theorem cross_same (a b c d : Int × Int) : crossZ a b c d = rcrossZ a b c d := by
  unfold crossZ rcrossZ
  simp only [apartB_iff]
  have e : (onB a b c = true ∨ onB a b d = true ∨ onB c d a = true ∨ onB c d b = true) ↔ (onB c d a = true ∨ onB c d b = true ∨ onB a b c = true ∨ onB a b d = true) := by
    constructor <;> (rintro (h | h | h | h) <;> simp [h])
  simp only [e]

theorem num_same (a b c d : Int × Int) : (c.1 - a.1) * (d.2 - c.2) - (c.2 - a.2) * (d.1 - c.1) = turnZ c d a := by unfold turnZ; grind
theorem den_same (a b c d : Int × Int) : (b.1 - a.1) * (d.2 - c.2) - (b.2 - a.2) * (d.1 - c.1) = turnZ c d a - turnZ c d b := by unfold turnZ; grind

set_option maxHeartbeats 1600000 in
theorem rcut_ok (a1 a2 b1 b2 c1 c2 d1 d2 : Int) (w : World) (ha : okP (a1, a2) = true) (hb : okP (b1, b2) = true) (hc : okP (c1, c2) = true) (hd : okP (d1, d2) = true) :
    Calls Try.prog 13 #[pt a1 a2, pt b1 b2, pt c1 c2, pt d1 d2] w fun e w' => e = .returned (fr (cutR (turnZ (c1, c2) (d1, d2) (a1, a2)) (turnZ (c1, c2) (d1, d2) (a1, a2) - turnZ (c1, c2) (d1, d2) (b1, b2)))) ∧ Below w.heap.size w w' := by
  have g1 := turnZ_bd hc hd ha
  have g2 := turnZ_bd hc hd hb
  have HN := Lib.hid (num_same (a1, a2) (b1, b2) (c1, c2) (d1, d2))
  have HD := Lib.hid (den_same (a1, a2) (b1, b2) (c1, c2) (d1, d2))
  generalize turnZ (c1, c2) (d1, d2) (a1, a2) = x at *
  generalize turnZ (c1, c2) (d1, d2) (b1, b2) = y at *
  have q1 := prod_bd (c1 - a1) (d2 - c2) (by have := okP_bd ha; have := okP_bd hc; omega) (by have := okP_bd hd; have := okP_bd hc; omega)
  have q2 := prod_bd (c2 - a2) (d1 - c1) (by have := okP_bd ha; have := okP_bd hc; omega) (by have := okP_bd hd; have := okP_bd hc; omega)
  have q3 := prod_bd (b1 - a1) (d2 - c2) (by have := okP_bd ha; have := okP_bd hb; omega) (by have := okP_bd hd; have := okP_bd hc; omega)
  have q4 := prod_bd (b2 - a2) (d1 - c1) (by have := okP_bd ha; have := okP_bd hb; omega) (by have := okP_bd hd; have := okP_bd hc; omega)
  have r1 := okP_bd ha
  have r2 := okP_bd hb
  have r3 := okP_bd hc
  have r4 := okP_bd hd
  simp only at r1 r2 r3 r4
  obtain ⟨⟨r11, r12⟩, r13, r14⟩ := r1
  obtain ⟨⟨r21, r22⟩, r23, r24⟩ := r2
  obtain ⟨⟨r31, r32⟩, r33, r34⟩ := r3
  obtain ⟨⟨r41, r42⟩, r43, r44⟩ := r4
  obtain ⟨q11, q12⟩ := q1
  obtain ⟨q21, q22⟩ := q2
  obtain ⟨q31, q32⟩ := q3
  obtain ⟨q41, q42⟩ := q4
  clear ha hb hc hd
  go_enter Try.func13, Try.ntmps13
  have HX := Lib.hid (rfl : turnZ (c1, c2) (d1, d2) (a1, a2) = turnZ (c1, c2) (d1, d2) (a1, a2))
  go_upto_if 61 with (fail)
  generalize (c1 - a1) * (d2 - c2) = u1 at *
  generalize (c2 - a2) * (d1 - c1) = u2 at *
  generalize (b1 - a1) * (d2 - c2) = u3 at *
  generalize (b2 - a2) * (d1 - c1) = u4 at *
  have hn : u1 - u2 = x := HN.out
  have hd : u3 - u4 = x - y := HD.out
  rw [hn, hd]
  clear HN HD hn hd HX
  have hO := Out.start _ 29 0 0 (w.heap.size + 1 + 1 + 1 + 1) (by simp : _ = ((((w.alloc (Obj.cells #[Value.int IntKind.i64 a1, Value.int IntKind.i64 a2] 23)).alloc (Obj.cells #[Value.int IntKind.i64 b1, Value.int IntKind.i64 b2] 23)).alloc (Obj.cells #[Value.int IntKind.i64 c1, Value.int IntKind.i64 c2] 23)).alloc (Obj.cells #[Value.int IntKind.i64 d1, Value.int IntKind.i64 d2] 23)).heap.size)
  have hB := (show Below w.heap.size w (((((w.alloc (Obj.cells #[Value.int IntKind.i64 a1, Value.int IntKind.i64 a2] 23)).alloc (Obj.cells #[Value.int IntKind.i64 b1, Value.int IntKind.i64 b2] 23)).alloc (Obj.cells #[Value.int IntKind.i64 c1, Value.int IntKind.i64 c2] 23)).alloc (Obj.cells #[Value.int IntKind.i64 d1, Value.int IntKind.i64 d2] 23)).alloc (Obj.cells #[Value.int IntKind.i64 0, Value.int IntKind.i64 0] 29)) from by (repeat' (first | (with_reducible exact Below.refl _ _) | (with_reducible assumption) | (with_reducible refine Below.alloc ?_ ?_ _) | (with_reducible refine Below.drew ?_) | (with_reducible refine below_drewN ?_ _) | (with_reducible refine Below.setCell ?_ ?_ _) | (exact Below.size (by with_reducible assumption)) | go_size)))
  generalize (((((w.alloc (Obj.cells #[Value.int IntKind.i64 a1, Value.int IntKind.i64 a2] 23)).alloc (Obj.cells #[Value.int IntKind.i64 b1, Value.int IntKind.i64 b2] 23)).alloc (Obj.cells #[Value.int IntKind.i64 c1, Value.int IntKind.i64 c2] 23)).alloc (Obj.cells #[Value.int IntKind.i64 d1, Value.int IntKind.i64 d2] 23)).alloc (Obj.cells #[Value.int IntKind.i64 0, Value.int IntKind.i64 0] 29)) = W at *
  obtain ⟨g1, g3⟩ := g1
  obtain ⟨g2, g4⟩ := g2
  obtain ⟨hy1, o1, o2, o3, o4⟩ := id hO
  by_cases h0 : x - y = 0
  · have z : (x - y == 0) = true := by simpa using h0
    have h0 := Lib.hid h0
    go_wp2
    exact bodyPost_ret (v := fr ((0, 0), 16)) (by simp [results, Try.results13, go_sem, o1, o2]) rfl ⟨ret_fr (cutR_zero h0.out).symm, by (repeat' (first | (with_reducible exact Below.refl _ _) | (with_reducible assumption) | (with_reducible refine Below.alloc ?_ ?_ _) | (with_reducible refine Below.drew ?_) | (with_reducible refine below_drewN ?_ _) | (with_reducible refine Below.setCell ?_ ?_ _) | (exact Below.size (by with_reducible assumption)) | go_size))⟩
  · have z : (x - y == 0) = false := by simpa using h0
    by_cases h1 : x - y < 0
    · by_cases h2 : 0 < x
      · go_wp2
        exact bodyPost_ret (v := fr ((0, 0), 2)) (by simp [results, Try.results13, go_sem, o1, o2]) rfl ⟨ret_fr (cutR_nr (by omega) (by omega)).symm, by (repeat' (first | (with_reducible exact Below.refl _ _) | (with_reducible assumption) | (with_reducible refine Below.alloc ?_ ?_ _) | (with_reducible refine Below.drew ?_) | (with_reducible refine below_drewN ?_ _) | (with_reducible refine Below.setCell ?_ ?_ _) | (exact Below.size (by with_reducible assumption)) | go_size))⟩
      · by_cases h3 : x < x - y
        · go_wp2
          exact bodyPost_ret (v := fr ((0, 0), 2)) (by simp [results, Try.results13, go_sem, o1, o2]) rfl ⟨ret_fr (cutR_nr (by omega) (by omega)).symm, by (repeat' (first | (with_reducible exact Below.refl _ _) | (with_reducible assumption) | (with_reducible refine Below.alloc ?_ ?_ _) | (with_reducible refine Below.drew ?_) | (with_reducible refine below_drewN ?_ _) | (with_reducible refine Below.setCell ?_ ?_ _) | (exact Below.size (by with_reducible assumption)) | go_size))⟩
        · go_wp2
          obtain ⟨n, hn⟩ := Int.eq_ofNat_of_zero_le (show 0 ≤ -x by omega)
          obtain ⟨d, hd⟩ := Int.eq_ofNat_of_zero_le (show 0 ≤ -(x - y) by omega)
          have hn0 : n ≤ 9007199254740992 := by omega
          have hd0 : d ≤ 9007199254740992 := by omega
          have hd1 : 0 < d := by omega
          have hnd : n ≤ d := by omega
          have hg : 0 < Nat.gcd n d := Nat.gcd_pos_of_pos_right _ hd1
          rw [hn, hd]
          have Hn := Lib.hid hn
          have Hd := Lib.hid hd
          clear hn hd h0 z 
          have HE : Hid (cutR x (x - y) = makeR n d) := Lib.hid (by rw [cutR_n (by omega) (by omega) (by omega), Hn.out, Hd.out])
          clear h1 h2 h3
          go_loopw [12, 13] (fun v12 v13 wr => ∃ p q : Nat, p ≤ 9007199254740992 ∧ q ≤ 9007199254740992 ∧ v12 = .int .i64 p ∧ v13 = .int .i64 q ∧ Hid (Nat.gcd p q = Nat.gcd n d) ∧ ∃ k, wr = W.drewN k) (fun v12 v13 _ => (intOf v13).toNat)
          case atStart => exact ⟨n, d, hn0, hd0, rfl, rfl, Lib.hid rfl, 0, rfl⟩
          case round =>
            obtain ⟨p, q, hp, hq, rfl, rfl, hpq, k, rfl⟩ := hrel
            by_cases hz : q = 0
            · subst hz
              have hpg : p = Nat.gcd n d := by rw [← hpq.out]; simp
              have hp0 : 0 < p := by omega
              have HR : Hid (makeR n d = if 1073741824 < (n : Int) / p ∨ 1073741824 < (d : Int) / p then ((0, 0), 5) else (((n : Int) / p, (d : Int) / p), 0)) := Lib.hid (by rw [hpg]; rfl)
              have zp : ((p : Int) == 0) = false := by rw [beq_eq_false_iff_ne]; omega
              have e1 : 0 ≤ (n : Int) / (p : Int) := Int.ediv_nonneg (by omega) (by omega)
              have e2 : (n : Int) / (p : Int) ≤ 9007199254740992 := by rw [← Int.natCast_ediv]; have := Nat.div_le_self n p; omega
              have e3 : 0 ≤ (d : Int) / (p : Int) := Int.ediv_nonneg (by omega) (by omega)
              have e4 : (d : Int) / (p : Int) ≤ 9007199254740992 := by rw [← Int.natCast_ediv]; have := Nat.div_le_self d p; omega
              clear hpg
              go_wp2
              all_goals (try (go_region; all_goals go_wp2))
              all_goals first
                | exact bodyPost_ret (v := fr ((0, 0), 5)) (by simp [results, Try.results13, go_sem, o1, o2, o3, o4]) rfl ⟨ret_fr (by rw [HE.out, HR.out, if_pos (by omega)]), by (repeat' (first | (with_reducible exact Below.refl _ _) | (with_reducible assumption) | (with_reducible refine Below.alloc ?_ ?_ _) | (with_reducible refine Below.drew ?_) | (with_reducible refine below_drewN ?_ _) | (with_reducible refine Below.setCell ?_ ?_ _) | (exact Below.size (by with_reducible assumption)) | go_size))⟩
                | exact bodyPost_ret (v := fr (((n : Int) / p, (d : Int) / p), 0)) (by simp [results, Try.results13, go_sem, o1, o2, o3, o4]) rfl ⟨ret_fr (by rw [HE.out, HR.out, if_neg (by omega)]), by (repeat' (first | (with_reducible exact Below.refl _ _) | (with_reducible assumption) | (with_reducible refine Below.alloc ?_ ?_ _) | (with_reducible refine Below.drew ?_) | (with_reducible refine below_drewN ?_ _) | (with_reducible refine Below.setCell ?_ ?_ _) | (exact Below.size (by with_reducible assumption)) | go_size))⟩
            · have hq0 : 0 < q := by omega
              have hz2 : ((q : Int) == 0) = false := by rw [beq_eq_false_iff_ne]; omega
              go_wp2
              go_quiet (fail)
              go_roundw
              case rel =>
                have hlt := Nat.mod_lt p hq0
                (repeat apply Exists.intro)
                exact ⟨⟨q, p % q, by omega, by omega, rfl, by rw [Int.natCast_emod], Lib.hid (by rw [← hpq.out, Nat.gcd_comm p q, Nat.gcd_rec q p, Nat.gcd_comm]), _, by rw [World.drewN_drewN]⟩, rfl⟩
              case measure =>
                have hlt := Nat.mod_lt p hq0
                simp [intOf]; omega
    · by_cases h2 : x < 0
      · go_wp2
        exact bodyPost_ret (v := fr ((0, 0), 2)) (by simp [results, Try.results13, go_sem, o1, o2]) rfl ⟨ret_fr (cutR_pr (by omega) (by omega)).symm, by (repeat' (first | (with_reducible exact Below.refl _ _) | (with_reducible assumption) | (with_reducible refine Below.alloc ?_ ?_ _) | (with_reducible refine Below.drew ?_) | (with_reducible refine below_drewN ?_ _) | (with_reducible refine Below.setCell ?_ ?_ _) | (exact Below.size (by with_reducible assumption)) | go_size))⟩
      · by_cases h3 : x - y < x
        · go_wp2
          exact bodyPost_ret (v := fr ((0, 0), 2)) (by simp [results, Try.results13, go_sem, o1, o2]) rfl ⟨ret_fr (cutR_pr (by omega) (by omega)).symm, by (repeat' (first | (with_reducible exact Below.refl _ _) | (with_reducible assumption) | (with_reducible refine Below.alloc ?_ ?_ _) | (with_reducible refine Below.drew ?_) | (with_reducible refine below_drewN ?_ _) | (with_reducible refine Below.setCell ?_ ?_ _) | (exact Below.size (by with_reducible assumption)) | go_size))⟩
        · go_wp2
          obtain ⟨n, hn⟩ := Int.eq_ofNat_of_zero_le (show 0 ≤ x by omega)
          obtain ⟨d, hd⟩ := Int.eq_ofNat_of_zero_le (show 0 ≤ x - y by omega)
          have hn0 : n ≤ 9007199254740992 := by omega
          have hd0 : d ≤ 9007199254740992 := by omega
          have hd1 : 0 < d := by omega
          have hnd : n ≤ d := by omega
          have hg : 0 < Nat.gcd n d := Nat.gcd_pos_of_pos_right _ hd1
          rw [hd, hn]
          have Hn := Lib.hid hn
          have Hd := Lib.hid hd
          clear hn hd h0 z
          have HE : Hid (cutR x (x - y) = makeR n d) := Lib.hid (by rw [cutR_p (by have := Hd.out; omega) (by omega) (by omega), Hd.out, Hn.out])
          clear h1 h2 h3
          go_loopw [12, 13] (fun v12 v13 wr => ∃ p q : Nat, p ≤ 9007199254740992 ∧ q ≤ 9007199254740992 ∧ v12 = .int .i64 p ∧ v13 = .int .i64 q ∧ Hid (Nat.gcd p q = Nat.gcd n d) ∧ ∃ k, wr = W.drewN k) (fun v12 v13 _ => (intOf v13).toNat)
          case atStart => exact ⟨n, d, hn0, hd0, rfl, rfl, Lib.hid rfl, 0, rfl⟩
          case round =>
            obtain ⟨p, q, hp, hq, rfl, rfl, hpq, k, rfl⟩ := hrel
            by_cases hz : q = 0
            · subst hz
              have hpg : p = Nat.gcd n d := by rw [← hpq.out]; simp
              have hp0 : 0 < p := by omega
              have HR : Hid (makeR n d = if 1073741824 < (n : Int) / p ∨ 1073741824 < (d : Int) / p then ((0, 0), 5) else (((n : Int) / p, (d : Int) / p), 0)) := Lib.hid (by rw [hpg]; rfl)
              have zp : ((p : Int) == 0) = false := by rw [beq_eq_false_iff_ne]; omega
              have e1 : 0 ≤ (n : Int) / (p : Int) := Int.ediv_nonneg (by omega) (by omega)
              have e2 : (n : Int) / (p : Int) ≤ 9007199254740992 := by rw [← Int.natCast_ediv]; have := Nat.div_le_self n p; omega
              have e3 : 0 ≤ (d : Int) / (p : Int) := Int.ediv_nonneg (by omega) (by omega)
              have e4 : (d : Int) / (p : Int) ≤ 9007199254740992 := by rw [← Int.natCast_ediv]; have := Nat.div_le_self d p; omega
              clear hpg
              go_wp2
              all_goals (try (go_region; all_goals go_wp2))
              all_goals first
                | exact bodyPost_ret (v := fr ((0, 0), 5)) (by simp [results, Try.results13, go_sem, o1, o2, o3, o4]) rfl ⟨ret_fr (by rw [HE.out, HR.out, if_pos (by omega)]), by (repeat' (first | (with_reducible exact Below.refl _ _) | (with_reducible assumption) | (with_reducible refine Below.alloc ?_ ?_ _) | (with_reducible refine Below.drew ?_) | (with_reducible refine below_drewN ?_ _) | (with_reducible refine Below.setCell ?_ ?_ _) | (exact Below.size (by with_reducible assumption)) | go_size))⟩
                | exact bodyPost_ret (v := fr (((n : Int) / p, (d : Int) / p), 0)) (by simp [results, Try.results13, go_sem, o1, o2, o3, o4]) rfl ⟨ret_fr (by rw [HE.out, HR.out, if_neg (by omega)]), by (repeat' (first | (with_reducible exact Below.refl _ _) | (with_reducible assumption) | (with_reducible refine Below.alloc ?_ ?_ _) | (with_reducible refine Below.drew ?_) | (with_reducible refine below_drewN ?_ _) | (with_reducible refine Below.setCell ?_ ?_ _) | (exact Below.size (by with_reducible assumption)) | go_size))⟩
            · have hq0 : 0 < q := by omega
              have hz2 : ((q : Int) == 0) = false := by rw [beq_eq_false_iff_ne]; omega
              go_wp2
              go_quiet (fail)
              go_roundw
              case rel =>
                have hlt := Nat.mod_lt p hq0
                (repeat apply Exists.intro)
                exact ⟨⟨q, p % q, by omega, by omega, rfl, by rw [Int.natCast_emod], Lib.hid (by rw [← hpq.out, Nat.gcd_comm p q, Nat.gcd_rec q p, Nat.gcd_comm]), _, by rw [World.drewN_drewN]⟩, rfl⟩
              case measure =>
                have hlt := Nat.mod_lt p hq0
                simp [intOf]; omega
end Go.Proofs.Ytcabnkclelgoeaa
