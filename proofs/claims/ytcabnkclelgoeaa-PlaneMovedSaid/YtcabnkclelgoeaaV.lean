/- PlaneMoved: the walk. -/
import Derived.Test.YtcabnkclelgoeaaX
import Derived.Test.YtcabnkclelgoeaaQ
namespace Go.Proofs.Ytcabnkclelgoeaa
set_option linter.unusedSimpArgs false
set_option linter.unusedVariables false
open Go.ChangeShapes Go.WideShapes Go.ChangeAt Go.RowKit

def Five (w : World) (n : Nat) (a1 a2 b1 b2 c1 c2 d1 d2 v1 v2 : Int) : Prop := n + 5 ≤ w.heap.size ∧ w.cell? ⟨n, 0, none⟩ = some (.int .i64 a1) ∧ w.cell? ⟨n, 1, none⟩ = some (.int .i64 a2) ∧ w.cell? ⟨n + 1, 0, none⟩ = some (.int .i64 b1) ∧ w.cell? ⟨n + 1, 1, none⟩ = some (.int .i64 b2) ∧ w.cell? ⟨n + 1 + 1, 0, none⟩ = some (.int .i64 c1) ∧ w.cell? ⟨n + 1 + 1, 1, none⟩ = some (.int .i64 c2) ∧ w.cell? ⟨n + 1 + 1 + 1, 0, none⟩ = some (.int .i64 d1) ∧ w.cell? ⟨n + 1 + 1 + 1, 1, none⟩ = some (.int .i64 d2) ∧ w.cell? ⟨n + 1 + 1 + 1 + 1, 0, none⟩ = some (.int .i64 v1) ∧ w.cell? ⟨n + 1 + 1 + 1 + 1, 1, none⟩ = some (.int .i64 v2)
theorem Five.below {w w' : World} {n : Nat} {a1 a2 b1 b2 c1 c2 d1 d2 v1 v2 : Int} (h : Five w n a1 a2 b1 b2 c1 c2 d1 d2 v1 v2) (hb : Below w.heap.size w w') : Five w' n a1 a2 b1 b2 c1 c2 d1 d2 v1 v2 := by
  obtain ⟨hn, e1, e2, e3, e4, e5, e6, e7, e8, e9, e10⟩ := h
  refine ⟨Nat.le_trans hn hb.size, (hb.cell (by simp; omega)).trans e1, (hb.cell (by simp; omega)).trans e2, (hb.cell (by simp; omega)).trans e3, (hb.cell (by simp; omega)).trans e4, (hb.cell (by simp; omega)).trans e5, (hb.cell (by simp; omega)).trans e6, (hb.cell (by simp; omega)).trans e7, (hb.cell (by simp; omega)).trans e8, (hb.cell (by simp; omega)).trans e9, (hb.cell (by simp; omega)).trans e10⟩
theorem Five.lts {w : World} {n : Nat} {a1 a2 b1 b2 c1 c2 d1 d2 v1 v2 : Int} (h : Five w n a1 a2 b1 b2 c1 c2 d1 d2 v1 v2) : n < w.heap.size ∧ n + 1 < w.heap.size ∧ n + 1 + 1 < w.heap.size ∧ n + 1 + 1 + 1 < w.heap.size ∧ n + 1 + 1 + 1 + 1 < w.heap.size := by
  have := h.1
  omega
theorem Five.alloc {w : World} {n : Nat} {a1 a2 b1 b2 c1 c2 d1 d2 v1 v2 : Int} (h : Five w n a1 a2 b1 b2 c1 c2 d1 d2 v1 v2) (o : Obj) : Five (w.alloc o) n a1 a2 b1 b2 c1 c2 d1 d2 v1 v2 := h.below ((Below.refl _ _).alloc (Nat.le_refl _) o)
theorem Five.start (w : World) (t : TypeId) (a1 a2 b1 b2 c1 c2 d1 d2 v1 v2 : Int) : Five (((((w.alloc (.cells #[.int .i64 a1, .int .i64 a2] t)).alloc (.cells #[.int .i64 b1, .int .i64 b2] t)).alloc (.cells #[.int .i64 c1, .int .i64 c2] t)).alloc (.cells #[.int .i64 d1, .int .i64 d2] t)).alloc (.cells #[.int .i64 v1, .int .i64 v2] t)) w.heap.size a1 a2 b1 b2 c1 c2 d1 d2 v1 v2 := by
  refine ⟨by simp, ?_, ?_, ?_, ?_, ?_, ?_, ?_, ?_, ?_, ?_⟩ <;> (go_simp; done)

theorem mv_ok (q v : Int × Int) (hq : okP q = true) (hv : okP v = true) : wrap64 (q.1 + v.1) = (mv q v).1 ∧ wrap64 (q.2 + v.2) = (mv q v).2 := by
  have := okP_bd hq
  have := okP_bd hv
  exact ⟨w64 _ (by omega), w64 _ (by omega)⟩
theorem moved_ok (q1 q2 v1 v2 : Int) (w : World) (hq : okP (q1, q2) = true) (hv : okP (v1, v2) = true) :
    Calls Try.prog 18 #[pt q1 q2, pt v1 v2] w fun e w' => e = .returned (pt (q1 + v1) (q2 + v2)) ∧ Below w.heap.size w w' := by
  obtain ⟨⟨h1, h2⟩, h3, h4⟩ := okP_bd hq
  obtain ⟨⟨g1, g2⟩, g3, g4⟩ := okP_bd hv
  have h1 : -16777216 ≤ q1 := h1
  have h2 : q1 ≤ 16777216 := h2
  have h3 : -16777216 ≤ q2 := h3
  have h4 : q2 ≤ 16777216 := h4
  have g1 : -16777216 ≤ v1 := g1
  have g2 : v1 ≤ 16777216 := g2
  have g3 : -16777216 ≤ v2 := g3
  have g4 : v2 ≤ 16777216 := g4
  clear hq hv
  go_enter Try.func18, Try.ntmps18
  go_wp2_with fail
  refine (p_any _ _ _).mono ?_
  rintro e wn ⟨rfl, hbn⟩
  have hO := (Out.start _ 23 0 0 (w.heap.size + 1 + 1) (by simp)).below hbn
  have hB1 := (show Below w.heap.size w _ from by (repeat' (first | (with_reducible exact Below.refl _ _) | (with_reducible assumption) | (with_reducible refine Below.alloc ?_ ?_ _) | (with_reducible refine Below.drew ?_) | (with_reducible refine below_drewN ?_ _) | (with_reducible refine Below.setCell ?_ ?_ _) | (exact Below.size (by with_reducible assumption)) | go_size))).trans (hbn.mono (Below.size (show Below w.heap.size w _ from by (repeat' (first | (with_reducible exact Below.refl _ _) | (with_reducible assumption) | (with_reducible refine Below.alloc ?_ ?_ _) | (with_reducible refine Below.drew ?_) | (with_reducible refine below_drewN ?_ _) | (with_reducible refine Below.setCell ?_ ?_ _) | (exact Below.size (by with_reducible assumption)) | go_size)))))
  obtain ⟨hy1, o1, o2, o3, o4⟩ := id hO
  go_wp2
  exact bodyPost_ret (v := pt (q1 + v1) (q2 + v2)) (by simp [results, Try.results18, go_sem, o1, o2]) rfl ⟨rfl, by (repeat' (first | (with_reducible exact Below.refl _ _) | (with_reducible assumption) | (with_reducible refine Below.alloc ?_ ?_ _) | (with_reducible refine Below.drew ?_) | (with_reducible refine below_drewN ?_ _) | (with_reducible refine Below.setCell ?_ ?_ _) | (exact Below.size (by with_reducible assumption)) | go_size))⟩

def goodV (v q : Int × Int) : Bool := okP q && okP v && okP (mv q v)

set_option maxRecDepth 100000 in
set_option maxHeartbeats 1000000 in
theorem moved_law (a1 a2 b1 b2 c1 c2 d1 d2 v1 v2 : Int) (w : World) :
    Calls Try.prog 5 #[pt a1 a2, pt b1 b2, pt c1 c2, pt d1 d2, pt v1 v2] w fun e w' => e = .returned (.bool true) ∧ Below w.heap.size w w' := by
  go_enter Try.func5, Try.ntmps5
  go_wp2_with fail
  refine (awake_true _).mono ?_
  rintro e wn ⟨rfl, hbn⟩
  have hF1 := (Five.start w 23 a1 a2 b1 b2 c1 c2 d1 d2 v1 v2).below hbn
  have hB1 := (show Below w.heap.size w _ from by (repeat' (first | (with_reducible exact Below.refl _ _) | (with_reducible assumption) | (with_reducible refine Below.alloc ?_ ?_ _) | (with_reducible refine Below.drew ?_) | (with_reducible refine below_drewN ?_ _) | (with_reducible refine Below.setCell ?_ ?_ _) | (exact Below.size (by with_reducible assumption)) | go_size))).trans (hbn.mono (by simp; omega))
  clear hbn
  obtain ⟨hz1, e1, e2, e3, e4, e5, e6, e7, e8, e9, e10⟩ := id hF1
  obtain ⟨l1, l2, l3, l4, l5⟩ := hF1.lts
  go_wp2_with fail
  obtain ⟨W, hW, hF, hBW, hP⟩ : ∃ W, W = wn.alloc (Obj.cells #[.int .i64 a1, .int .i64 a2, .int .i64 b1, .int .i64 b2, .int .i64 c1, .int .i64 c2, .int .i64 d1, .int .i64 d2] 23) ∧ Five W w.heap.size a1 a2 b1 b2 c1 c2 d1 d2 v1 v2 ∧ Below w.heap.size w W ∧ PtsAt W wn.heap.size 0 [(a1, a2), (b1, b2), (c1, c2), (d1, d2)] := ⟨_, rfl, hF1.alloc _, hB1.alloc hB1.size _, ptsAt4 _ _ _ _ _ _ _ _ _ _ _ rfl⟩
  have hwW : wn.heap.size < W.heap.size := by rw [hW]; simp
  rw [← hW]
  clear hW e1 e2 e3 e4 e5 e6 e7 e8 e9 e10 hz1 l1 l2 l3 l4 l5 hF1 hB1
  have HP := Lib.hid hP
  clear hP
  obtain ⟨l, Hl⟩ : ∃ l, Hid ([(a1, a2), (b1, b2), (c1, c2), (d1, d2)] = l) := ⟨_, Lib.hid rfl⟩
  rw [Hl.out] at HP
  have Hlen : Hid (l.length = 4) := Lib.hid (by rw [← Hl.out]; rfl)
  go_loopw [12, 38] (fun v12 v38 wr => ∃ k : Nat, k ≤ 4 ∧ v38 = .int .i64 k ∧ Below W.heap.size W wr ∧ Hid (OwnP wr W.heap.size v12 ((l.take k).map fun q => mv q (v1, v2))) ∧ Hid (∀ i, i < k → goodV (v1, v2) (l.getD i (0, 0)) = true)) (fun v12 v38 _ => 4 - (intOf v38).toNat)
  case atStart => exact ⟨0, by omega, rfl, Below.refl _ _, Lib.hid (OwnP.nil _ _), Lib.hid (by omega)⟩
  case round =>
    obtain ⟨k, hk, rfl, hB1, hO1, hG⟩ := hrel
    by_cases hlt : k < 4
    · have hpk := (HP.out.below hB1 hwW) k (by rw [Hlen.out]; exact hlt)
      have hF1 := hF.below hB1
      obtain ⟨q, Hq⟩ : ∃ q, Hid (l.getD k (0, 0) = q) := ⟨_, Lib.hid rfl⟩
      rw [Hq.out] at hpk
      obtain ⟨hc1, hc2⟩ := hpk
      simp only [Nat.zero_add] at hc1 hc2
      obtain ⟨q1, q2⟩ := q
      have hs0 := hB1.size
      have i1 : (k : Int) < 4 := by omega
      go_wp2_with fail
      have hQ1 := One.start wr 23 q1 q2
      have hF1 := hF1.alloc (Obj.cells #[.int .i64 q1, .int .i64 q2] 23)
      have hO1 := Lib.hid (hO1.out.below ((Below.refl _ _).alloc (Nat.le_refl _) (Obj.cells #[.int .i64 q1, .int .i64 q2] 23)))
      have hB1 := hB1.alloc hs0 (Obj.cells #[.int .i64 q1, .int .i64 q2] 23)
      obtain ⟨hz1, e1, e2, e3, e4, e5, e6, e7, e8, e9, e10⟩ := id hF1; obtain ⟨l1, l2, l3, l4, l5⟩ := hF1.lts; obtain ⟨hz2, f1, f2⟩ := id hQ1; have hs0 := hB1.size
      by_cases g1 : okP (q1, q2) = true
      · by_cases g2 : okP (v1, v2) = true
        · by_cases g3 : okP (q1 + v1, q2 + v2) = true
          · go_wp2_with (first
          | (go_at_call 17; (with_reducible refine (valid_any _ _ _).mono ?_); rintro e wn ⟨rfl, hbn⟩; have hF1 := hF1.below hbn; have hQ1 := hQ1.below hbn; have hO1 := Lib.hid (hO1.out.below hbn); have hB1 := hB1.trans (hbn.mono hB1.size); clear hbn; obtain ⟨hz1, e1, e2, e3, e4, e5, e6, e7, e8, e9, e10⟩ := id hF1; obtain ⟨l1, l2, l3, l4, l5⟩ := hF1.lts; obtain ⟨hz2, f1, f2⟩ := id hQ1; have hs0 := hB1.size)
          | (go_at_call 18; (with_reducible refine (moved_ok _ _ _ _ _ g1 g2).mono ?_); rintro e wn ⟨rfl, hbn⟩; have hF1 := hF1.below hbn; have hQ1 := hQ1.below hbn; have hO1 := Lib.hid (hO1.out.below hbn); have hB1 := hB1.trans (hbn.mono hB1.size); clear hbn; obtain ⟨hz1, e1, e2, e3, e4, e5, e6, e7, e8, e9, e10⟩ := id hF1; obtain ⟨l1, l2, l3, l4, l5⟩ := hF1.lts; obtain ⟨hz2, f1, f2⟩ := id hQ1; have hs0 := hB1.size)
          | (at_builtin; refine append_pt rfl (.tmp 57) (.tmp 61) rfl W.heap.size _ _ rfl (hO1.out.below ((Below.refl _ _).alloc (Nat.le_refl _) _)) wn.heap.size 1 (q1 + v1) (q2 + v2) rfl (by go_simp) (by go_simp) (by simp; omega) (by simp; omega) ?_; intro vv ww how hbw hsw))
            go_roundw
            case rel =>
              refine ⟨k + 1, by omega, by go_num, (hB1.alloc hs0 _).trans hbw, Lib.hid ?_, Lib.hid ?_⟩
              · have e : (l.take (k + 1)).map (fun q => mv q (v1, v2)) = (l.take k).map (fun q => mv q (v1, v2)) ++ [(q1 + v1, q2 + v2)] := by
                  have hkl : k < l.length := by rw [Hlen.out]; exact hlt
                  have hq : l[k] = (q1, q2) := by rw [← Hq.out]; simp [List.getD, hkl]
                  rw [List.take_succ_eq_append_getElem hkl, List.map_append, hq]
                  rfl
                rw [e]
                exact how
              · intro i hi
                by_cases e : i = k
                · rw [e, Hq.out]; unfold goodV; rw [g1, g2]; exact g3
                · exact hG.out i (by omega)
            case measure => simp [intOf]; omega
          · have g3 : okP (q1 + v1, q2 + v2) = false := by simpa using g3
            go_wp2_with (first
          | (go_at_call 17; (with_reducible refine (valid_any _ _ _).mono ?_); rintro e wn ⟨rfl, hbn⟩; have hF1 := hF1.below hbn; have hQ1 := hQ1.below hbn; have hO1 := Lib.hid (hO1.out.below hbn); have hB1 := hB1.trans (hbn.mono hB1.size); clear hbn; obtain ⟨hz1, e1, e2, e3, e4, e5, e6, e7, e8, e9, e10⟩ := id hF1; obtain ⟨l1, l2, l3, l4, l5⟩ := hF1.lts; obtain ⟨hz2, f1, f2⟩ := id hQ1; have hs0 := hB1.size)
          | (go_at_call 18; (with_reducible refine (moved_ok _ _ _ _ _ g1 g2).mono ?_); rintro e wn ⟨rfl, hbn⟩; have hF1 := hF1.below hbn; have hQ1 := hQ1.below hbn; have hO1 := Lib.hid (hO1.out.below hbn); have hB1 := hB1.trans (hbn.mono hB1.size); clear hbn; obtain ⟨hz1, e1, e2, e3, e4, e5, e6, e7, e8, e9, e10⟩ := id hF1; obtain ⟨l1, l2, l3, l4, l5⟩ := hF1.lts; obtain ⟨hz2, f1, f2⟩ := id hQ1; have hs0 := hB1.size))
            go_returns
            exact ⟨rfl, hBW.trans (hB1.mono hBW.size)⟩
        · have g2 : okP (v1, v2) = false := by simpa using g2
          go_wp2_with (go_at_call 17; (with_reducible refine (valid_any _ _ _).mono ?_); rintro e wn ⟨rfl, hbn⟩; have hF1 := hF1.below hbn; have hQ1 := hQ1.below hbn; have hO1 := Lib.hid (hO1.out.below hbn); have hB1 := hB1.trans (hbn.mono hB1.size); clear hbn; obtain ⟨hz1, e1, e2, e3, e4, e5, e6, e7, e8, e9, e10⟩ := id hF1; obtain ⟨l1, l2, l3, l4, l5⟩ := hF1.lts; obtain ⟨hz2, f1, f2⟩ := id hQ1; have hs0 := hB1.size)
          go_returns
          exact ⟨rfl, hBW.trans (hB1.mono hBW.size)⟩
      · have g1 : okP (q1, q2) = false := by simpa using g1
        go_wp2_with (go_at_call 17; (with_reducible refine (valid_any _ _ _).mono ?_); rintro e wn ⟨rfl, hbn⟩; have hF1 := hF1.below hbn; have hQ1 := hQ1.below hbn; have hO1 := Lib.hid (hO1.out.below hbn); have hB1 := hB1.trans (hbn.mono hB1.size); clear hbn; obtain ⟨hz1, e1, e2, e3, e4, e5, e6, e7, e8, e9, e10⟩ := id hF1; obtain ⟨l1, l2, l3, l4, l5⟩ := hF1.lts; obtain ⟨hz2, f1, f2⟩ := id hQ1; have hs0 := hB1.size)
        go_returns
        exact ⟨rfl, hBW.trans (hB1.mono hBW.size)⟩
    · have hk4 : k = 4 := by omega
      subst hk4
      have hl4 : l.take 4 = l := by rw [List.take_of_length_le (by rw [Hlen.out]; exact Nat.le_refl _)]
      have hO2 := hO1.out
      have hG2 := hG.out
      rw [hl4, ← Hl.out] at hO2
      rw [← Hl.out] at hG2
      obtain ⟨g, cap, hv12, hg1, hg2, hcap1, hcap2, hPm⟩ := hO2.pts (by simp)
      rw [hv12]
      have ga := hG2 0 (by omega)
      have gb := hG2 1 (by omega)
      have gc := hG2 2 (by omega)
      have gd := hG2 3 (by omega)
      simp only [List.getD_cons_zero, List.getD_cons_succ, goodV, Bool.and_eq_true] at ga gb gc gd
      obtain ⟨⟨ka, kv⟩, ma⟩ := ga
      obtain ⟨⟨kb, _⟩, mb⟩ := gb
      obtain ⟨⟨kc, _⟩, mc⟩ := gc
      obtain ⟨⟨kd, _⟩, md⟩ := gd
      have O1 := fun W => orient_ok a1 a2 b1 b2 c1 c2 W ka kb kc
      have O2 := fun W => orient_ok (a1 + v1) (a2 + v2) (b1 + v1) (b2 + v2) (c1 + v1) (c2 + v2) W ma mb mc
      have O3 := fun W => orient_ok b1 b2 a1 a2 c1 c2 W kb ka kc
      have O4 := fun W => orient_ok b1 b2 c1 c2 a1 a2 W kb kc ka
      have X1 := fun W => cross_val a1 a2 b1 b2 c1 c2 d1 d2 W ka kb kc kd
      have X2 := fun W => cross_val (a1 + v1) (a2 + v2) (b1 + v1) (b2 + v2) (c1 + v1) (c2 + v2) (d1 + v1) (d2 + v2) W ma mb mc md
      have X3 := fun W => cross_val d1 d2 c1 c2 b1 b2 a1 a2 W kd kc kb ka
      have I1 := fun W => inside_val d1 d2 a1 a2 b1 b2 c1 c2 W kd ka kb kc
      have I2 := fun W => inside_val (d1 + v1) (d2 + v2) (c1 + v1) (c2 + v2) (a1 + v1) (a2 + v2) (b1 + v1) (b2 + v2) W md mc ma mb
      have I3 := fun W => inside_val d1 d2 b1 b2 a1 a2 c1 c2 W kd kb ka kc
      rw [show turnZ (a1 + v1, a2 + v2) (b1 + v1, b2 + v2) (c1 + v1, c2 + v2) = turnZ (a1, a2) (b1, b2) (c1, c2) from turn_mv (a1, a2) (b1, b2) (c1, c2) (v1, v2)] at O2
      rw [turn_swap (a1, a2) (b1, b2) (c1, c2), cmp_neg] at O3
      rw [turn_rot (a1, a2) (b1, b2) (c1, c2)] at O4
      rw [show crossR (a1 + v1, a2 + v2) (b1 + v1, b2 + v2) (c1 + v1, c2 + v2) (d1 + v1, d2 + v2) = crossR (a1, a2) (b1, b2) (c1, c2) (d1, d2) from cross_mv (a1, a2) (b1, b2) (c1, c2) (d1, d2) (v1, v2)] at X2
      rw [cross_back (a1, a2) (b1, b2) (c1, c2) (d1, d2)] at X3
      rw [show insideR (d1 + v1, d2 + v2) (c1 + v1, c2 + v2) (a1 + v1, a2 + v2) (b1 + v1, b2 + v2) = insideR (d1, d2) (c1, c2) (a1, a2) (b1, b2) from inside_mv (d1, d2) (c1, c2) (a1, a2) (b1, b2) (v1, v2), inside_rot (d1, d2) (a1, a2) (b1, b2) (c1, c2)] at I2
      rw [inside_swap (d1, d2) (a1, a2) (b1, b2) (c1, c2)] at I3
      obtain ⟨sg1, sg2⟩ := cmpZ_bd (turnZ (a1, a2) (b1, b2) (c1, c2)) 0
      generalize cmpZ (turnZ (a1, a2) (b1, b2) (c1, c2)) 0 = sg at *
      generalize crossR (a1, a2) (b1, b2) (c1, c2) (d1, d2) = xr at *
      generalize insideR (d1, d2) (a1, a2) (b1, b2) (c1, c2) = ir at *
      obtain ⟨x1, x2⟩ := xr
      obtain ⟨y1, y2⟩ := ir
      have O1 := Lib.hid O1
      have O2 := Lib.hid O2
      have O3 := Lib.hid O3
      have O4 := Lib.hid O4
      have X1 := Lib.hid X1
      have X2 := Lib.hid X2
      have X3 := Lib.hid X3
      have I1 := Lib.hid I1
      have I2 := Lib.hid I2
      have I3 := Lib.hid I3
      have HPm := Lib.hid hPm
      have hF1 := hF.below hB1
      have hB1 := hBW.trans (hB1.mono hBW.size)
      clear ka kb kc kd kv ma mb mc md hO2 hG2 hv12 hO1 hG hl4 HP Hl Hlen hwW hF hBW hg1 hcap1 hcap2 hPm
      obtain ⟨hz1, e1, e2, e3, e4, e5, e6, e7, e8, e9, e10⟩ := id hF1
      obtain ⟨l1, l2, l3, l4, l5⟩ := hF1.lts
      go_wp2_with fail
      refine (O1.out _).mono ?_
      rintro e wn ⟨rfl, hbn⟩
      have HPm := Lib.hid (HPm.out.below hbn hg2)
      have hg2 := Nat.lt_of_lt_of_le hg2 hbn.size
      have hF1 := hF1.below hbn
      have hB1 := hB1.trans (hbn.mono hB1.size)
      clear hbn
      go_wp2_with fail
      obtain ⟨q1, q2⟩ := HPm.out 0 (by simp)
      obtain ⟨q3, q4⟩ := HPm.out 1 (by simp)
      obtain ⟨q5, q6⟩ := HPm.out 2 (by simp)
      obtain ⟨q7, q8⟩ := HPm.out 3 (by simp)
      simp only [List.map_cons, List.map_nil, List.getD_cons_zero, List.getD_cons_succ, Nat.zero_mul, Nat.zero_add, Nat.one_mul, Nat.reduceMul, Nat.reduceAdd, mv] at q1 q2 q3 q4 q5 q6 q7 q8
      go_region_held3 (fun w' => w'.cell? ⟨g, 0, none⟩ = some (.int .i64 (a1 + v1)) ∧ w'.cell? ⟨g, 1, none⟩ = some (.int .i64 (a2 + v2)) ∧ w'.cell? ⟨g, 2, none⟩ = some (.int .i64 (b1 + v1)) ∧ w'.cell? ⟨g, 3, none⟩ = some (.int .i64 (b2 + v2)) ∧ w'.cell? ⟨g, 4, none⟩ = some (.int .i64 (c1 + v1)) ∧ w'.cell? ⟨g, 5, none⟩ = some (.int .i64 (c2 + v2)) ∧ w'.cell? ⟨g, 6, none⟩ = some (.int .i64 (d1 + v1)) ∧ w'.cell? ⟨g, 7, none⟩ = some (.int .i64 (d2 + v2)))
        (first | (exact ⟨q1, q2, q3, q4, q5, q6, q7, q8⟩) | go_keep)
        (first | (go_at_call 15; (with_reducible refine (O2.out _).mono ?_); rintro e wx ⟨rfl, hbn⟩; have q1 := (hbn.cell (by simpa using hg2)).trans q1; have q2 := (hbn.cell (by simpa using hg2)).trans q2; have q3 := (hbn.cell (by simpa using hg2)).trans q3; have q4 := (hbn.cell (by simpa using hg2)).trans q4; have q5 := (hbn.cell (by simpa using hg2)).trans q5; have q6 := (hbn.cell (by simpa using hg2)).trans q6; have q7 := (hbn.cell (by simpa using hg2)).trans q7; have q8 := (hbn.cell (by simpa using hg2)).trans q8))
      have hg2 := Nat.lt_of_lt_of_le hg2 hbn.size
      clear e1 e2 e3 e4 e5 e6 e7 e8 e9 e10 hz1 l1 l2 l3 l4 l5
      have hF1 := Five.below (w := wn.drew) hF1 hbn
      have hB1 := hB1.drew.trans (hbn.mono hB1.size)
      clear hbn
      obtain ⟨hz1, e1, e2, e3, e4, e5, e6, e7, e8, e9, e10⟩ := id hF1
      obtain ⟨l1, l2, l3, l4, l5⟩ := hF1.lts
      go_wp2_with fail
      refine (O3.out _).mono ?_
      rintro e wn ⟨rfl, hbn⟩
      have q1 := (hbn.cell (by simpa using hg2)).trans q1
      have q2 := (hbn.cell (by simpa using hg2)).trans q2
      have q3 := (hbn.cell (by simpa using hg2)).trans q3
      have q4 := (hbn.cell (by simpa using hg2)).trans q4
      have q5 := (hbn.cell (by simpa using hg2)).trans q5
      have q6 := (hbn.cell (by simpa using hg2)).trans q6
      have q7 := (hbn.cell (by simpa using hg2)).trans q7
      have q8 := (hbn.cell (by simpa using hg2)).trans q8
      have hg2 := Nat.lt_of_lt_of_le hg2 hbn.size
      clear e1 e2 e3 e4 e5 e6 e7 e8 e9 e10 hz1 l1 l2 l3 l4 l5
      have hF1 := hF1.below hbn
      have hB1 := hB1.trans (hbn.mono hB1.size)
      clear hbn
      obtain ⟨hz1, e1, e2, e3, e4, e5, e6, e7, e8, e9, e10⟩ := id hF1
      obtain ⟨l1, l2, l3, l4, l5⟩ := hF1.lts
      go_wp2_with fail
      refine (O4.out _).mono ?_
      rintro e wn ⟨rfl, hbn⟩
      have q1 := (hbn.cell (by simpa using hg2)).trans q1
      have q2 := (hbn.cell (by simpa using hg2)).trans q2
      have q3 := (hbn.cell (by simpa using hg2)).trans q3
      have q4 := (hbn.cell (by simpa using hg2)).trans q4
      have q5 := (hbn.cell (by simpa using hg2)).trans q5
      have q6 := (hbn.cell (by simpa using hg2)).trans q6
      have q7 := (hbn.cell (by simpa using hg2)).trans q7
      have q8 := (hbn.cell (by simpa using hg2)).trans q8
      have hg2 := Nat.lt_of_lt_of_le hg2 hbn.size
      clear e1 e2 e3 e4 e5 e6 e7 e8 e9 e10 hz1 l1 l2 l3 l4 l5
      have hF1 := hF1.below hbn
      have hB1 := hB1.trans (hbn.mono hB1.size)
      clear hbn
      obtain ⟨hz1, e1, e2, e3, e4, e5, e6, e7, e8, e9, e10⟩ := id hF1
      obtain ⟨l1, l2, l3, l4, l5⟩ := hF1.lts
      go_wp2_with fail
      refine (X1.out _).mono ?_
      rintro e wn ⟨rfl, hbn⟩
      have q1 := (hbn.cell (by simpa using hg2)).trans q1
      have q2 := (hbn.cell (by simpa using hg2)).trans q2
      have q3 := (hbn.cell (by simpa using hg2)).trans q3
      have q4 := (hbn.cell (by simpa using hg2)).trans q4
      have q5 := (hbn.cell (by simpa using hg2)).trans q5
      have q6 := (hbn.cell (by simpa using hg2)).trans q6
      have q7 := (hbn.cell (by simpa using hg2)).trans q7
      have q8 := (hbn.cell (by simpa using hg2)).trans q8
      have hg2 := Nat.lt_of_lt_of_le hg2 hbn.size
      clear e1 e2 e3 e4 e5 e6 e7 e8 e9 e10 hz1 l1 l2 l3 l4 l5
      have hF1 := hF1.below hbn
      have hB1 := hB1.trans (hbn.mono hB1.size)
      clear hbn
      obtain ⟨hz1, e1, e2, e3, e4, e5, e6, e7, e8, e9, e10⟩ := id hF1
      obtain ⟨l1, l2, l3, l4, l5⟩ := hF1.lts
      go_wp2_with fail
      go_region_held3 (fun w' => w'.cell? ⟨g, 0, none⟩ = some (.int .i64 (a1 + v1)) ∧ w'.cell? ⟨g, 1, none⟩ = some (.int .i64 (a2 + v2)) ∧ w'.cell? ⟨g, 2, none⟩ = some (.int .i64 (b1 + v1)) ∧ w'.cell? ⟨g, 3, none⟩ = some (.int .i64 (b2 + v2)) ∧ w'.cell? ⟨g, 4, none⟩ = some (.int .i64 (c1 + v1)) ∧ w'.cell? ⟨g, 5, none⟩ = some (.int .i64 (c2 + v2)) ∧ w'.cell? ⟨g, 6, none⟩ = some (.int .i64 (d1 + v1)) ∧ w'.cell? ⟨g, 7, none⟩ = some (.int .i64 (d2 + v2)))
        (first | (exact ⟨q1, q2, q3, q4, q5, q6, q7, q8⟩) | go_keep)
        (first | (go_at_call 10; (with_reducible refine (X2.out _).mono ?_); rintro e wx ⟨rfl, hbn⟩; have q1 := (hbn.cell (by simpa using hg2)).trans q1; have q2 := (hbn.cell (by simpa using hg2)).trans q2; have q3 := (hbn.cell (by simpa using hg2)).trans q3; have q4 := (hbn.cell (by simpa using hg2)).trans q4; have q5 := (hbn.cell (by simpa using hg2)).trans q5; have q6 := (hbn.cell (by simpa using hg2)).trans q6; have q7 := (hbn.cell (by simpa using hg2)).trans q7; have q8 := (hbn.cell (by simpa using hg2)).trans q8))
      have hg2 := Nat.lt_of_lt_of_le hg2 hbn.size
      clear e1 e2 e3 e4 e5 e6 e7 e8 e9 e10 hz1 l1 l2 l3 l4 l5
      have hF1 := Five.below (w := wn.drew) hF1 hbn
      have hB1 := hB1.drew.trans (hbn.mono hB1.size)
      clear hbn
      obtain ⟨hz1, e1, e2, e3, e4, e5, e6, e7, e8, e9, e10⟩ := id hF1
      obtain ⟨l1, l2, l3, l4, l5⟩ := hF1.lts
      go_wp2_with fail
      refine (X3.out _).mono ?_
      rintro e wn ⟨rfl, hbn⟩
      have q1 := (hbn.cell (by simpa using hg2)).trans q1
      have q2 := (hbn.cell (by simpa using hg2)).trans q2
      have q3 := (hbn.cell (by simpa using hg2)).trans q3
      have q4 := (hbn.cell (by simpa using hg2)).trans q4
      have q5 := (hbn.cell (by simpa using hg2)).trans q5
      have q6 := (hbn.cell (by simpa using hg2)).trans q6
      have q7 := (hbn.cell (by simpa using hg2)).trans q7
      have q8 := (hbn.cell (by simpa using hg2)).trans q8
      have hg2 := Nat.lt_of_lt_of_le hg2 hbn.size
      clear e1 e2 e3 e4 e5 e6 e7 e8 e9 e10 hz1 l1 l2 l3 l4 l5
      have hF1 := hF1.below hbn
      have hB1 := hB1.trans (hbn.mono hB1.size)
      clear hbn
      obtain ⟨hz1, e1, e2, e3, e4, e5, e6, e7, e8, e9, e10⟩ := id hF1
      obtain ⟨l1, l2, l3, l4, l5⟩ := hF1.lts
      go_wp2_with fail
      refine (I1.out _).mono ?_
      rintro e wn ⟨rfl, hbn⟩
      have q1 := (hbn.cell (by simpa using hg2)).trans q1
      have q2 := (hbn.cell (by simpa using hg2)).trans q2
      have q3 := (hbn.cell (by simpa using hg2)).trans q3
      have q4 := (hbn.cell (by simpa using hg2)).trans q4
      have q5 := (hbn.cell (by simpa using hg2)).trans q5
      have q6 := (hbn.cell (by simpa using hg2)).trans q6
      have q7 := (hbn.cell (by simpa using hg2)).trans q7
      have q8 := (hbn.cell (by simpa using hg2)).trans q8
      have hg2 := Nat.lt_of_lt_of_le hg2 hbn.size
      clear e1 e2 e3 e4 e5 e6 e7 e8 e9 e10 hz1 l1 l2 l3 l4 l5
      have hF1 := hF1.below hbn
      have hB1 := hB1.trans (hbn.mono hB1.size)
      clear hbn
      obtain ⟨hz1, e1, e2, e3, e4, e5, e6, e7, e8, e9, e10⟩ := id hF1
      obtain ⟨l1, l2, l3, l4, l5⟩ := hF1.lts
      go_wp2_with fail
      go_region_held3 (fun w' => w'.cell? ⟨g, 0, none⟩ = some (.int .i64 (a1 + v1)) ∧ w'.cell? ⟨g, 1, none⟩ = some (.int .i64 (a2 + v2)) ∧ w'.cell? ⟨g, 2, none⟩ = some (.int .i64 (b1 + v1)) ∧ w'.cell? ⟨g, 3, none⟩ = some (.int .i64 (b2 + v2)) ∧ w'.cell? ⟨g, 4, none⟩ = some (.int .i64 (c1 + v1)) ∧ w'.cell? ⟨g, 5, none⟩ = some (.int .i64 (c2 + v2)) ∧ w'.cell? ⟨g, 6, none⟩ = some (.int .i64 (d1 + v1)) ∧ w'.cell? ⟨g, 7, none⟩ = some (.int .i64 (d2 + v2)))
        (first | (exact ⟨q1, q2, q3, q4, q5, q6, q7, q8⟩) | go_keep)
        (first | (go_at_call 19; (with_reducible refine (I2.out _).mono ?_); rintro e wx ⟨rfl, hbn⟩; have q1 := (hbn.cell (by simpa using hg2)).trans q1; have q2 := (hbn.cell (by simpa using hg2)).trans q2; have q3 := (hbn.cell (by simpa using hg2)).trans q3; have q4 := (hbn.cell (by simpa using hg2)).trans q4; have q5 := (hbn.cell (by simpa using hg2)).trans q5; have q6 := (hbn.cell (by simpa using hg2)).trans q6; have q7 := (hbn.cell (by simpa using hg2)).trans q7; have q8 := (hbn.cell (by simpa using hg2)).trans q8))
      have hg2 := Nat.lt_of_lt_of_le hg2 hbn.size
      clear e1 e2 e3 e4 e5 e6 e7 e8 e9 e10 hz1 l1 l2 l3 l4 l5
      have hF1 := Five.below (w := wn.drew) hF1 hbn
      have hB1 := hB1.drew.trans (hbn.mono hB1.size)
      clear hbn
      obtain ⟨hz1, e1, e2, e3, e4, e5, e6, e7, e8, e9, e10⟩ := id hF1
      obtain ⟨l1, l2, l3, l4, l5⟩ := hF1.lts
      go_wp2_with fail
      refine (I3.out _).mono ?_
      rintro e wn ⟨rfl, hbn⟩
      have q1 := (hbn.cell (by simpa using hg2)).trans q1
      have q2 := (hbn.cell (by simpa using hg2)).trans q2
      have q3 := (hbn.cell (by simpa using hg2)).trans q3
      have q4 := (hbn.cell (by simpa using hg2)).trans q4
      have q5 := (hbn.cell (by simpa using hg2)).trans q5
      have q6 := (hbn.cell (by simpa using hg2)).trans q6
      have q7 := (hbn.cell (by simpa using hg2)).trans q7
      have q8 := (hbn.cell (by simpa using hg2)).trans q8
      have hg2 := Nat.lt_of_lt_of_le hg2 hbn.size
      clear e1 e2 e3 e4 e5 e6 e7 e8 e9 e10 hz1 l1 l2 l3 l4 l5
      have hF1 := hF1.below hbn
      have hB1 := hB1.trans (hbn.mono hB1.size)
      clear hbn
      obtain ⟨hz1, e1, e2, e3, e4, e5, e6, e7, e8, e9, e10⟩ := id hF1
      obtain ⟨l1, l2, l3, l4, l5⟩ := hF1.lts
      go_wp2
      go_returns
      exact ⟨ret_bool (by simp), by assumption⟩
end Go.Proofs.Ytcabnkclelgoeaa
