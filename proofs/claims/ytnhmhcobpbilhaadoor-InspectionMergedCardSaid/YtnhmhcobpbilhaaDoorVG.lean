/- The worst window: the code's and the document's. -/
import Derived.Test.YtnhmhcobpbilhaaDoorVF
namespace Go.Proofs.YtnhmhcobpbilhaaDoor
set_option linter.unusedSectionVars false
set_option linter.unusedSimpArgs false
set_option linter.unusedVariables false
set_option maxRecDepth 100000

theorem at_bound {w : Int} {d : Df} (hw : 0 ≤ w) (ha : 0 ≤ d.a ∧ d.a ≤ 16777216) : 0 ≤ atZ w d ∧ atZ w d ≤ 16777216 := by
  unfold atZ
  cases h : ilt 0 (d.a - w)
  · simp
  · have := iltI h; simp only [cond_true]; omega
theorem at_mono {w : Int} {q d : Df} (h : q.a ≤ d.a) : atZ w q ≤ atZ w d := by
  unfold atZ
  cases h1 : ilt 0 (q.a - w) <;> cases h2 : ilt 0 (d.a - w) <;> simp only [cond_true, cond_false]
  · omega
  · have := iltI h2; omega
  · have := iltI h1; have := iltN h2; omega
  · omega
theorem before_le {q d : Df} (h : beforeB q d = true) : q.a ≤ d.a := by
  unfold beforeB at h
  cases e : q.a != d.a
  · have : q.a = d.a := by simpa using e
    omega
  · rw [e] at h; have := iltI h; omega
theorem rAt_eq {L w : Int} {d : Df} (hw : 0 ≤ w) (hwL : w ≤ L) (h : d.a ≤ L) : rAt L w d = atZ w d := by
  unfold rAt
  have : ¬ L - w < atZ w d := by
    unfold atZ
    cases h1 : ilt 0 (d.a - w) <;> simp only [cond_true, cond_false] <;> omega
  rw [iltF this]; rfl
theorem rAt_bound {L w : Int} {d : Df} (hw : 0 ≤ w) (hwL : w ≤ L) (ha : 0 ≤ d.a ∧ d.a ≤ 16777216) : 0 ≤ rAt L w d ∧ rAt L w d ≤ 16777216 := by
  have := at_bound hw ha
  unfold rAt
  cases h1 : ilt (L - w) (atZ w d)
  · simp only [cond_false]; omega
  · have := iltI h1; simp only [cond_true]; omega
theorem rwst_eq (l0 : List Df) {L w : Int} (hw : 0 ≤ w) (hwL : w ≤ L) : ∀ (r : List Df) (p : Option Df) (b : Int × Int), chainB L p r = true → (b.2 ≤ 0 ∨ ∃ q, p = some q ∧ b.2 ≤ atZ w q) → rwst l0 L w b r = wst l0 w b r := by
  intro r
  induction r with
  | nil => intros; rfl
  | cons d r ih =>
    intro p b h hb
    simp only [chainB, Bool.and_eq_true] at h
    have hr := h.1
    simp only [rightB, ile, ilt, Bool.and_eq_true, decide_eq_true_eq] at hr
    have h0 : 0 ≤ atZ w d := by
      unfold atZ
      cases h1 : ilt 0 (d.a - w)
      · simp
      · have := iltI h1; simp only [cond_true]; omega
    have hle : b.2 ≤ atZ w d := by
      rcases hb with hb | ⟨q, rfl, hb⟩
      · omega
      · have := at_mono (w := w) (before_le h.2.1); omega
    have e : rAt L w d = atZ w d := rAt_eq hw hwL (by omega)
    simp only [rwst, wst, e, iltF (show ¬ atZ w d < b.2 by omega), Bool.and_false, Bool.or_false]
    refine ih (some d) _ h.2.2 (.inr ⟨d, rfl, ?_⟩)
    cases ilt b.1 (winZ l0 (atZ w d) w)
    · exact hle
    · exact Int.le_refl _
theorem rwor_eq {L w : Int} {l : List Df} (h : goW L w l = true) : rwor L w l = wst l w (winZ l 0 w, 0) l := by
  simp only [goW, validB, Bool.and_eq_true] at h
  exact rwst_eq l (ileI h.2.1) (ileI h.2.2) l none _ h.1.2.2 (.inl (Int.le_refl _))

namespace worst
noncomputable def bd : Code := (Tryd.f17.body).getD .skip
noncomputable def X : Ctx U El := ⟨E, tds, zeros, eqs, specOf [(21, valid.sp), (44, touch.sp)], 100000, 54, fun _ => none⟩
noncomputable def nmR : Norm U := ⟨[], [6, 7, 8], [], [], [], []⟩
noncomputable def RR : Kont U El := fun st => normK nmR st (retFin [6, 7, 8] [])
noncomputable def nm1 : Norm U := ⟨[], [3, 5], [3, 5], [], [], []⟩
noncomputable def nm2 : Norm U := ⟨[], [10, 11], [], [], [], []⟩
noncomputable def nm3 : Norm U := ⟨[], [5, 9, 10, 11, 32, 33, 34], [3, 5], [], [], []⟩
noncomputable def nm4 : Norm U := ⟨[], [5, 9, 10, 11, 32, 33, 34], [3, 5], [], [], []⟩
noncomputable def fr0 (l : List Df) (L : Int) (w : Int) : St U El := ⟨[(0, (.lst .df l)), (1, (.int .i64 L)), (2, (.int .i64 w))], []⟩
noncomputable def fr1 (b3_0 : List Df) (b5_0 : Int) : St U El := ⟨[(3, (.ptr 3 0)), (5, (.ptr 5 0))], [(3, (.box 0 [(.lst .df b3_0)])), (5, (.box 0 [(.int .i64 b5_0)]))]⟩
noncomputable def fr2 (best10 : Int) (at11 : Int) : St U El := ⟨[(10, (.int .i64 best10)), (11, (.int .i64 at11))], []⟩
noncomputable def fr3 (best10 : Int) (at11 : Int) (x32 : List Df) (x33 : Int) (x34 : Int) (b3_0 : List Df) (b5_0 : Int) : St U El := ⟨[(5, (.ptr 5 0)), (9, (.fn 44 [] [(.ptr 3 0), (.ptr 5 0)])), (10, (.int .i64 best10)), (11, (.int .i64 at11)), (32, (.lst .df x32)), (33, (.int .i64 x33)), (34, (.int .i64 x34))], [(3, (.box 0 [(.lst .df b3_0)])), (5, (.box 0 [(.int .i64 b5_0)]))]⟩
noncomputable def fr4 (best10 : Int) (at11 : Int) (x32 : List Df) (x33 : Int) (x34 : Int) (b3_0 : List Df) (b5_0 : Int) : St U El := ⟨[(5, (.ptr 5 0)), (9, (.fn 44 [] [(.ptr 3 0), (.ptr 5 0)])), (10, (.int .i64 best10)), (11, (.int .i64 at11)), (32, (.lst .df x32)), (33, (.int .i64 x33)), (34, (.int .i64 x34))], [(3, (.box 0 [(.lst .df b3_0)])), (5, (.box 0 [(.int .i64 b5_0)]))]⟩
noncomputable def sh0 (l : List Df) (L : Int) (w : Int) (k1 : (List Df) → Int → R) : R :=
  condB (!(validB L l)) (some ((.tup [(.int .i64 (0 : Int)), (.int .i64 (0 : Int)), (.int .i64 (1 : Int))]), [])) (condB (ilt w (0 : Int)) (some ((.tup [(.int .i64 (0 : Int)), (.int .i64 (0 : Int)), (.int .i64 (2 : Int))]), [])) (condB (ilt L w) (some ((.tup [(.int .i64 (0 : Int)), (.int .i64 (0 : Int)), (.int .i64 (2 : Int))]), [])) (k1 l w)))
noncomputable def sh1 (b3_0 : List Df) (b5_0 : Int) (k3 : Int → Int → (List Df) → Int → Int → (List Df) → Int → R) : R :=
  chk ((okW b3_0 && (pos0 (0 : Int) && pos0 b5_0))) (k3 (winZ b3_0 (0 : Int) b5_0) (0 : Int) b3_0 (Int.ofNat (List.length b3_0)) (0 : Int) b3_0 b5_0)
noncomputable def sh2 (best10 : Int) (at11 : Int) : R :=
  some ((.tup [(.int .i64 best10), (.int .i64 at11), (.int .i64 (0 : Int))]), [])
noncomputable def sh3 (best10 : Int) (at11 : Int) (x32 : List Df) (x33 : Int) (x34 : Int) (b3_0 : List Df) (b5_0 : Int) (k2 : Int → Int → R) (k4 : Int → Int → (List Df) → Int → Int → (List Df) → Int → R) : R :=
  condB (ilt x34 x33) (chk (inb x34 (List.length x32)) (chk ((okW b3_0 && (pos0 (bif ilt (0 : Int) (IntKind.wrap .i64 ((List.getD x32 (Int.toNat x34) d_df).a - b5_0)) then (IntKind.wrap .i64 ((List.getD x32 (Int.toNat x34) d_df).a - b5_0)) else (0 : Int)) && pos0 b5_0))) (condB (ilt best10 (winZ b3_0 (bif ilt (0 : Int) (IntKind.wrap .i64 ((List.getD x32 (Int.toNat x34) d_df).a - b5_0)) then (IntKind.wrap .i64 ((List.getD x32 (Int.toNat x34) d_df).a - b5_0)) else (0 : Int)) b5_0)) (k4 (winZ b3_0 (bif ilt (0 : Int) (IntKind.wrap .i64 ((List.getD x32 (Int.toNat x34) d_df).a - b5_0)) then (IntKind.wrap .i64 ((List.getD x32 (Int.toNat x34) d_df).a - b5_0)) else (0 : Int)) b5_0) (bif ilt (0 : Int) (IntKind.wrap .i64 ((List.getD x32 (Int.toNat x34) d_df).a - b5_0)) then (IntKind.wrap .i64 ((List.getD x32 (Int.toNat x34) d_df).a - b5_0)) else (0 : Int)) x32 x33 x34 b3_0 b5_0) (k4 best10 at11 x32 x33 x34 b3_0 b5_0)))) (k2 best10 at11)
noncomputable def sh4 (best10 : Int) (at11 : Int) (x32 : List Df) (x33 : Int) (x34 : Int) (b3_0 : List Df) (b5_0 : Int) (k3 : Int → Int → (List Df) → Int → Int → (List Df) → Int → R) : R :=
  k3 best10 at11 x32 x33 (IntKind.wrap .i64 (x34 + (1 : Int))) b3_0 b5_0
noncomputable def it3 (Kb2 : Kont U El) (n : Nat) : Kont U El := iter nm3 (fun st' K' => exec X (cdp [1, 1, 1, 1, 0, 1, 0, 0] bd) (.seq none .d (.seq none .d (.seq (some nm4) .d .d))) st' K' (Eblk 1 (cutK nm2 Kb2) (fun _ _ => none)) RR) n
noncomputable def ct1 : Kont U El := fun st => exec X (cdp [1, 1] bd) (.seq none .d (.seq none .d (.seq (some nm2) (.seq none .d (.block (.loop nm3 (.seq none .d (.seq none .d (.seq (some nm4) .d .d)))))) .d))) st RR (fun _ _ => none) RR
noncomputable def ct2 : Kont U El := fun st => exec X (cdp [1, 1, 1, 1, 1] bd) .d st RR (fun _ _ => none) RR
noncomputable def ct4 (Kb2 : Kont U El) (Kb3 : Kont U El) : Kont U El := fun st => exec X (cdp [1, 1, 1, 1, 0, 1, 0, 0, 1, 1, 1] bd) .d st (cutK nm3 Kb3) (Eblk 1 (cutK nm2 Kb2) (fun _ _ => none)) RR
theorem P0 (l : List Df) (L : Int) (w : Int) : exec X (cdp [] bd) (.seq none .d (.seq (some nm1) .d (.seq none .d (.seq none .d (.seq (some nm2) (.seq none .d (.block (.loop nm3 (.seq none .d (.seq none .d (.seq (some nm4) .d .d)))))) .d))))) (fr0 l L w) RR (fun _ _ => none) RR = sh0 l L w (fun y0 y1 => (hid ct1) (fr1 y0 y1)) := by kernel_rfl
theorem P1 (b3_0 : List Df) (b5_0 : Int) : exec X (cdp [1, 1] bd) (.seq none .d (.seq none .d (.seq (some nm2) (.seq none .d (.block (.loop nm3 (.seq none .d (.seq none .d (.seq (some nm4) .d .d)))))) .d))) (fr1 b3_0 b5_0) RR (fun _ _ => none) RR = sh1 b3_0 b5_0 (fun y0 y1 y2 y3 y4 y5 y6 => (hid (it3 (hid ct2) 100000)) (fr3 y0 y1 y2 y3 y4 y5 y6)) := by kernel_rfl
theorem P2 (best10 : Int) (at11 : Int) : exec X (cdp [1, 1, 1, 1, 1] bd) .d (fr2 best10 at11) RR (fun _ _ => none) RR = sh2 best10 at11 := by kernel_rfl
theorem P3 (best10 : Int) (at11 : Int) (x32 : List Df) (x33 : Int) (x34 : Int) (b3_0 : List Df) (b5_0 : Int) (Kb2 : Kont U El) (Kb3 : Kont U El) : exec X (cdp [1, 1, 1, 1, 0, 1, 0, 0] bd) (.seq none .d (.seq none .d (.seq (some nm4) .d .d))) (fr3 best10 at11 x32 x33 x34 b3_0 b5_0) (cutK nm3 Kb3) (Eblk 1 (cutK nm2 Kb2) (fun _ _ => none)) RR = sh3 best10 at11 x32 x33 x34 b3_0 b5_0 (fun y0 y1 => Kb2 (fr2 y0 y1)) (fun y0 y1 y2 y3 y4 y5 y6 => (hid (ct4 Kb2 Kb3)) (fr4 y0 y1 y2 y3 y4 y5 y6)) := by kernel_rfl
theorem P4 (best10 : Int) (at11 : Int) (x32 : List Df) (x33 : Int) (x34 : Int) (b3_0 : List Df) (b5_0 : Int) (Kb2 : Kont U El) (Kb3 : Kont U El) : exec X (cdp [1, 1, 1, 1, 0, 1, 0, 0, 1, 1, 1] bd) .d (fr4 best10 at11 x32 x33 x34 b3_0 b5_0) (cutK nm3 Kb3) (Eblk 1 (cutK nm2 Kb2) (fun _ _ => none)) RR = sh4 best10 at11 x32 x33 x34 b3_0 b5_0 (fun y0 y1 y2 y3 y4 y5 y6 => Kb3 (fr3 y0 y1 y2 y3 y4 y5 y6)) := by kernel_rfl
noncomputable def f2 (best10 : Int) (at11 : Int) : R := sh2 best10 at11
noncomputable def f4 (k3 : Int → Int → (List Df) → Int → Int → (List Df) → Int → R) (best10 : Int) (at11 : Int) (x32 : List Df) (x33 : Int) (x34 : Int) (b3_0 : List Df) (b5_0 : Int) : R := sh4 best10 at11 x32 x33 x34 b3_0 b5_0 k3
noncomputable def f3 : Nat → Int → Int → (List Df) → Int → Int → (List Df) → Int → R
  | 0 => fun _ _ _ _ _ _ _ => none
  | n + 1 => fun best10 at11 x32 x33 x34 b3_0 b5_0 => sh3 best10 at11 x32 x33 x34 b3_0 b5_0 f2 (f4 (f3 n))
noncomputable def f1 (b3_0 : List Df) (b5_0 : Int) : R := sh1 b3_0 b5_0 (f3 100000)
noncomputable def f0 (l : List Df) (L : Int) (w : Int) : R := sh0 l L w f1
theorem T2 (best10 : Int) (at11 : Int) : (hid ct2) (fr2 best10 at11) = f2 best10 at11 := by
  refine (congrFun (hid_eq _) _).trans <| (P2 best10 at11).trans ?_
  show _ = sh2 best10 at11
  rfl
theorem T4 (KL3 : Kont U El) (k3 : Int → Int → (List Df) → Int → Int → (List Df) → Int → R) (h3 : ∀ best10 at11 x32 x33 x34 b3_0 b5_0, KL3 (fr3 best10 at11 x32 x33 x34 b3_0 b5_0) = k3 best10 at11 x32 x33 x34 b3_0 b5_0) (best10 : Int) (at11 : Int) (x32 : List Df) (x33 : Int) (x34 : Int) (b3_0 : List Df) (b5_0 : Int) : (hid (ct4 (hid ct2) KL3)) (fr4 best10 at11 x32 x33 x34 b3_0 b5_0) = f4 k3 best10 at11 x32 x33 x34 b3_0 b5_0 := by
  refine (congrFun (hid_eq _) _).trans <| (P4 best10 at11 x32 x33 x34 b3_0 b5_0 (hid ct2) KL3).trans ?_
  show _ = sh4 best10 at11 x32 x33 x34 b3_0 b5_0 k3
  simp only [h3]
theorem T3 : ∀ (n : Nat), ∀ best10 at11 x32 x33 x34 b3_0 b5_0, it3 (hid ct2) n (fr3 best10 at11 x32 x33 x34 b3_0 b5_0) = f3 n best10 at11 x32 x33 x34 b3_0 b5_0 := by
  intro n
  induction n with
  | zero => intros; rfl
  | succ n ih =>
    intro best10 at11 x32 x33 x34 b3_0 b5_0
    refine (P3 best10 at11 x32 x33 x34 b3_0 b5_0 (hid ct2) (it3 (hid ct2) n)).trans ?_
    show _ = sh3 best10 at11 x32 x33 x34 b3_0 b5_0 f2 (f4 (f3 n))
    simp only [T2, T4 (it3 (hid ct2) n) (f3 n) ih]
theorem H3 (best10 : Int) (at11 : Int) (x32 : List Df) (x33 : Int) (x34 : Int) (b3_0 : List Df) (b5_0 : Int) : hid (it3 (hid ct2) 100000) (fr3 best10 at11 x32 x33 x34 b3_0 b5_0) = f3 100000 best10 at11 x32 x33 x34 b3_0 b5_0 := (congrFun (hid_eq _) _).trans (T3 100000 best10 at11 x32 x33 x34 b3_0 b5_0)
theorem T1 (b3_0 : List Df) (b5_0 : Int) : (hid ct1) (fr1 b3_0 b5_0) = f1 b3_0 b5_0 := by
  refine (congrFun (hid_eq _) _).trans <| (P1 b3_0 b5_0).trans ?_
  show _ = sh1 b3_0 b5_0 (f3 100000)
  simp only [H3]
theorem T0 (l : List Df) (L : Int) (w : Int) : exec X bd (.seq none .d (.seq (some nm1) .d (.seq none .d (.seq none .d (.seq (some nm2) (.seq none .d (.block (.loop nm3 (.seq none .d (.seq none .d (.seq (some nm4) .d .d)))))) .d))))) (fr0 l L w) RR (fun _ _ => none) RR = f0 l L w := by
  refine (P0 l L w).trans ?_
  show _ = sh0 l L w f1
  simp only [T1]
theorem run (l : List Df) (L : Int) (w : Int) : runFn X bd (.seq none .d (.seq (some nm1) .d (.seq none .d (.seq none .d (.seq (some nm2) (.seq none .d (.block (.loop nm3 (.seq none .d (.seq none .d (.seq (some nm4) .d .d)))))) .d))))) nmR [6, 7, 8] [] [(.lst .df l), (.int .i64 L), (.int .i64 w)] = f0 l L w := T0 l L w
theorem loop (l : List Df) (w : Int) (h : okW l = true) (hw : pos0 w = true) : ∀ (n i : Nat) (b1 b2 : Int), l.length < n + i → i ≤ l.length → f3 n b1 b2 l (Int.ofNat l.length) (i : Int) l w = some (.tup [.int .i64 (wst l w (b1, b2) (l.drop i)).1, .int .i64 (wst l w (b1, b2) (l.drop i)).2, .int .i64 0], []) := by
  have hl := okW_len h
  have hw2 := pos0_iff.1 hw
  intro n
  induction n with
  | zero => intro i b1 b2 h1 h2; omega
  | succ n ih =>
    intro i b1 b2 h1 h2
    show sh3 b1 b2 l (Int.ofNat l.length) i l w f2 (f4 (f3 n)) = _
    unfold sh3
    by_cases hi : i < l.length
    · obtain ⟨hd, ha⟩ := okW_at h hi
      have hb := at_bound hw2.1 ha
      rw [iltT (by simp; omega), inbT hi, toNat_nat, getD_lt hi, wrapI (x := l[i].a - w) (by omega) (by omega), show (bif ilt 0 (l[i].a - w) then l[i].a - w else 0) = atZ w l[i] from rfl, h, hw, pos0_iff.2 hb, drop_lt hi]
      simp only [wst, f4, sh4, wrapS i (show i ≤ 1000000 by omega)]
      cases ilt b1 (winZ l (atZ w l[i]) w)
      · exact ih (i + 1) _ _ (by omega) (by omega)
      · exact ih (i + 1) _ _ (by omega) (by omega)
    · have : i = l.length := by omega
      subst this
      rw [iltF (by simp), List.drop_length]
      rfl
theorem f0_eq (l : List Df) (L w : Int) : f0 l L w = some (.tup [.int .i64 (wor1 L w l), .int .i64 (wor2 L w l), .int .i64 (worE L w l)], []) := by
  unfold f0 sh0 wor1 wor2 worE goW
  cases h : validB L l
  · rfl
  · obtain ⟨h1, h2⟩ := valid_okW h
    have hL := pos16_iff.1 h2
    have hl := okW_len h1
    by_cases hw : w < 0
    · rw [iltT hw, ileF (show ¬ 0 ≤ w by omega)]; rfl
    · rw [iltF hw, ileT (show 0 ≤ w by omega)]
      by_cases hw2 : L < w
      · rw [iltT hw2, ileF (show ¬ w ≤ L by omega)]; rfl
      · rw [iltF hw2, ileT (show w ≤ L by omega)]
        have hp : pos0 w = true := pos0_iff.2 ⟨by omega, by omega⟩
        show sh1 l w (f3 100000) = _
        unfold sh1
        rw [h1, hp]
        exact loop l w h1 hp 100000 0 _ _ (by omega) (by omega)
theorem ok : CtxOk Tryd.prog X := ctxOk tab (by
  intro p hp
  simp only [List.mem_cons, List.not_mem_nil, or_false] at hp
  rcases hp with rfl | rfl
  · exact valid.spOk
  · exact touch.spOk)
theorem okM : MOk Tryd.prog X := fun g sp h => by cases h
theorem spec (l : List Df) (L : Int) (w : Int) : CallSpec Tryd.prog E 17 [(.lst .df l), (.int .i64 L), (.int .i64 w)] (.tup [(.int .i64 (wor1 L w l)), (.int .i64 (wor2 L w l)), (.int .i64 (worE L w l))]) [] :=
  runFn_sound ok okM Tryd.call17 Tryd.func17 (by kernel_rfl) (by kernel_rfl) (by kernel_rfl) (by show 3 ≤ 54; decide) (by decide) (by rfl) ((run l L w).trans (f0_eq l L w))
noncomputable def sp : Sp U El := fun args k => match args with
  | [.lst .df l, .int .i64 L, .int .i64 w] => k (.tup [(.int .i64 (wor1 L w l)), (.int .i64 (wor2 L w l)), (.int .i64 (worE L w l))]) []
  | _ => none
theorem spOk : SpOk Tryd.prog E 17 sp where
  det := fun vs => by
    unfold sp
    split
    · exact ⟨some (_, _), fun _ => rfl⟩
    · exact ⟨none, fun _ => rfl⟩
  ok := fun vs k r h => by
    unfold sp at h
    split at h
    · exact ⟨_, _, spec _ _ _, h⟩
    · cases h
end worst
namespace rworst
noncomputable def bd : Code := (Tryd.f24.body).getD .skip
noncomputable def X : Ctx U El := ⟨E, tds, zeros, eqs, specOf [(47, rwindow.sp)], 100000, 55, fun _ => none⟩
noncomputable def nmR : Norm U := ⟨[], [6, 7], [], [], [], []⟩
noncomputable def RR : Kont U El := fun st => normK nmR st (retFin [6, 7] [])
noncomputable def nm1 : Norm U := ⟨[], [8, 9], [], [], [], []⟩
noncomputable def nm2 : Norm U := ⟨[], [0, 1, 2, 8, 9, 10], [], [], [], []⟩
noncomputable def nm3 : Norm U := ⟨[], [0, 1, 2, 8, 9, 10], [], [], [], []⟩
noncomputable def fr0 (l : List Df) (L : Int) (w : Int) : St U El := ⟨[(0, (.lst .df l)), (1, (.int .i64 L)), (2, (.int .i64 w))], []⟩
noncomputable def fr1 (most8 : Int) (where9 : Int) : St U El := ⟨[(8, (.int .i64 most8)), (9, (.int .i64 where9))], []⟩
noncomputable def fr2 (l0 : List Df) (length1 : Int) (width2 : Int) (most8 : Int) (where9 : Int) (i10 : Int) : St U El := ⟨[(0, (.lst .df l0)), (1, (.int .i64 length1)), (2, (.int .i64 width2)), (8, (.int .i64 most8)), (9, (.int .i64 where9)), (10, (.int .i64 i10))], []⟩
noncomputable def fr3 (l0 : List Df) (length1 : Int) (width2 : Int) (most8 : Int) (where9 : Int) (i10 : Int) : St U El := ⟨[(0, (.lst .df l0)), (1, (.int .i64 length1)), (2, (.int .i64 width2)), (8, (.int .i64 most8)), (9, (.int .i64 where9)), (10, (.int .i64 i10))], []⟩
noncomputable def sh0 (l : List Df) (L : Int) (w : Int) (k2 : (List Df) → Int → Int → Int → Int → Int → R) : R :=
  chk ((okW l && (pos0 (0 : Int) && pos0 w))) (k2 l L w (winZ l (0 : Int) w) (0 : Int) (0 : Int))
noncomputable def sh1 (most8 : Int) (where9 : Int) : R :=
  some ((.tup [(.int .i64 most8), (.int .i64 where9)]), [])
noncomputable def sh2 (l0 : List Df) (length1 : Int) (width2 : Int) (most8 : Int) (where9 : Int) (i10 : Int) (k1 : Int → Int → R) (k3 : (List Df) → Int → Int → Int → Int → Int → R) : R :=
  condB (ilt i10 (Int.ofNat (List.length l0))) (chk (inb i10 (List.length l0)) (chk ((okW l0 && (pos0 (bif ilt (IntKind.wrap .i64 (length1 - width2)) (bif ilt (0 : Int) (IntKind.wrap .i64 ((List.getD l0 (Int.toNat i10) d_df).a - width2)) then (IntKind.wrap .i64 ((List.getD l0 (Int.toNat i10) d_df).a - width2)) else (0 : Int)) then (IntKind.wrap .i64 (length1 - width2)) else (bif ilt (0 : Int) (IntKind.wrap .i64 ((List.getD l0 (Int.toNat i10) d_df).a - width2)) then (IntKind.wrap .i64 ((List.getD l0 (Int.toNat i10) d_df).a - width2)) else (0 : Int))) && pos0 width2))) (condB (ilt most8 (winZ l0 (bif ilt (IntKind.wrap .i64 (length1 - width2)) (bif ilt (0 : Int) (IntKind.wrap .i64 ((List.getD l0 (Int.toNat i10) d_df).a - width2)) then (IntKind.wrap .i64 ((List.getD l0 (Int.toNat i10) d_df).a - width2)) else (0 : Int)) then (IntKind.wrap .i64 (length1 - width2)) else (bif ilt (0 : Int) (IntKind.wrap .i64 ((List.getD l0 (Int.toNat i10) d_df).a - width2)) then (IntKind.wrap .i64 ((List.getD l0 (Int.toNat i10) d_df).a - width2)) else (0 : Int))) width2)) (k3 l0 length1 width2 (winZ l0 (bif ilt (IntKind.wrap .i64 (length1 - width2)) (bif ilt (0 : Int) (IntKind.wrap .i64 ((List.getD l0 (Int.toNat i10) d_df).a - width2)) then (IntKind.wrap .i64 ((List.getD l0 (Int.toNat i10) d_df).a - width2)) else (0 : Int)) then (IntKind.wrap .i64 (length1 - width2)) else (bif ilt (0 : Int) (IntKind.wrap .i64 ((List.getD l0 (Int.toNat i10) d_df).a - width2)) then (IntKind.wrap .i64 ((List.getD l0 (Int.toNat i10) d_df).a - width2)) else (0 : Int))) width2) (bif ilt (IntKind.wrap .i64 (length1 - width2)) (bif ilt (0 : Int) (IntKind.wrap .i64 ((List.getD l0 (Int.toNat i10) d_df).a - width2)) then (IntKind.wrap .i64 ((List.getD l0 (Int.toNat i10) d_df).a - width2)) else (0 : Int)) then (IntKind.wrap .i64 (length1 - width2)) else (bif ilt (0 : Int) (IntKind.wrap .i64 ((List.getD l0 (Int.toNat i10) d_df).a - width2)) then (IntKind.wrap .i64 ((List.getD l0 (Int.toNat i10) d_df).a - width2)) else (0 : Int))) i10) (condB ((winZ l0 (bif ilt (IntKind.wrap .i64 (length1 - width2)) (bif ilt (0 : Int) (IntKind.wrap .i64 ((List.getD l0 (Int.toNat i10) d_df).a - width2)) then (IntKind.wrap .i64 ((List.getD l0 (Int.toNat i10) d_df).a - width2)) else (0 : Int)) then (IntKind.wrap .i64 (length1 - width2)) else (bif ilt (0 : Int) (IntKind.wrap .i64 ((List.getD l0 (Int.toNat i10) d_df).a - width2)) then (IntKind.wrap .i64 ((List.getD l0 (Int.toNat i10) d_df).a - width2)) else (0 : Int))) width2) == most8) (condB (ilt (bif ilt (IntKind.wrap .i64 (length1 - width2)) (bif ilt (0 : Int) (IntKind.wrap .i64 ((List.getD l0 (Int.toNat i10) d_df).a - width2)) then (IntKind.wrap .i64 ((List.getD l0 (Int.toNat i10) d_df).a - width2)) else (0 : Int)) then (IntKind.wrap .i64 (length1 - width2)) else (bif ilt (0 : Int) (IntKind.wrap .i64 ((List.getD l0 (Int.toNat i10) d_df).a - width2)) then (IntKind.wrap .i64 ((List.getD l0 (Int.toNat i10) d_df).a - width2)) else (0 : Int))) where9) (k3 l0 length1 width2 (winZ l0 (bif ilt (IntKind.wrap .i64 (length1 - width2)) (bif ilt (0 : Int) (IntKind.wrap .i64 ((List.getD l0 (Int.toNat i10) d_df).a - width2)) then (IntKind.wrap .i64 ((List.getD l0 (Int.toNat i10) d_df).a - width2)) else (0 : Int)) then (IntKind.wrap .i64 (length1 - width2)) else (bif ilt (0 : Int) (IntKind.wrap .i64 ((List.getD l0 (Int.toNat i10) d_df).a - width2)) then (IntKind.wrap .i64 ((List.getD l0 (Int.toNat i10) d_df).a - width2)) else (0 : Int))) width2) (bif ilt (IntKind.wrap .i64 (length1 - width2)) (bif ilt (0 : Int) (IntKind.wrap .i64 ((List.getD l0 (Int.toNat i10) d_df).a - width2)) then (IntKind.wrap .i64 ((List.getD l0 (Int.toNat i10) d_df).a - width2)) else (0 : Int)) then (IntKind.wrap .i64 (length1 - width2)) else (bif ilt (0 : Int) (IntKind.wrap .i64 ((List.getD l0 (Int.toNat i10) d_df).a - width2)) then (IntKind.wrap .i64 ((List.getD l0 (Int.toNat i10) d_df).a - width2)) else (0 : Int))) i10) (k3 l0 length1 width2 most8 where9 i10)) (k3 l0 length1 width2 most8 where9 i10))))) (k1 most8 where9)
noncomputable def sh3 (l0 : List Df) (length1 : Int) (width2 : Int) (most8 : Int) (where9 : Int) (i10 : Int) (k2 : (List Df) → Int → Int → Int → Int → Int → R) : R :=
  k2 l0 length1 width2 most8 where9 (IntKind.wrap .i64 (i10 + (1 : Int)))
noncomputable def it2 (Kb1 : Kont U El) (n : Nat) : Kont U El := iter nm2 (fun st' K' => exec X (cdp [1, 1, 0, 1, 0, 0] bd) (.seq none .d (.seq (some nm3) .d .d)) st' K' (Eblk 0 (cutK nm1 Kb1) (fun _ _ => none)) RR) n
noncomputable def ct1 : Kont U El := fun st => exec X (cdp [1, 1, 1] bd) .d st RR (fun _ _ => none) RR
noncomputable def ct3 (Kb1 : Kont U El) (Kb2 : Kont U El) : Kont U El := fun st => exec X (cdp [1, 1, 0, 1, 0, 0, 1, 1] bd) .d st (cutK nm2 Kb2) (Eblk 0 (cutK nm1 Kb1) (fun _ _ => none)) RR
theorem P0 (l : List Df) (L : Int) (w : Int) : exec X (cdp [] bd) (.seq none .d (.seq none .d (.seq (some nm1) (.seq none .d (.block (.loop nm2 (.seq none .d (.seq (some nm3) .d .d))))) .d))) (fr0 l L w) RR (fun _ _ => none) RR = sh0 l L w (fun y0 y1 y2 y3 y4 y5 => (hid (it2 (hid ct1) 100000)) (fr2 y0 y1 y2 y3 y4 y5)) := by kernel_rfl
theorem P1 (most8 : Int) (where9 : Int) : exec X (cdp [1, 1, 1] bd) .d (fr1 most8 where9) RR (fun _ _ => none) RR = sh1 most8 where9 := by kernel_rfl
theorem P2 (l0 : List Df) (length1 : Int) (width2 : Int) (most8 : Int) (where9 : Int) (i10 : Int) (Kb1 : Kont U El) (Kb2 : Kont U El) : exec X (cdp [1, 1, 0, 1, 0, 0] bd) (.seq none .d (.seq (some nm3) .d .d)) (fr2 l0 length1 width2 most8 where9 i10) (cutK nm2 Kb2) (Eblk 0 (cutK nm1 Kb1) (fun _ _ => none)) RR = sh2 l0 length1 width2 most8 where9 i10 (fun y0 y1 => Kb1 (fr1 y0 y1)) (fun y0 y1 y2 y3 y4 y5 => (hid (ct3 Kb1 Kb2)) (fr3 y0 y1 y2 y3 y4 y5)) := by kernel_rfl
theorem P3 (l0 : List Df) (length1 : Int) (width2 : Int) (most8 : Int) (where9 : Int) (i10 : Int) (Kb1 : Kont U El) (Kb2 : Kont U El) : exec X (cdp [1, 1, 0, 1, 0, 0, 1, 1] bd) .d (fr3 l0 length1 width2 most8 where9 i10) (cutK nm2 Kb2) (Eblk 0 (cutK nm1 Kb1) (fun _ _ => none)) RR = sh3 l0 length1 width2 most8 where9 i10 (fun y0 y1 y2 y3 y4 y5 => Kb2 (fr2 y0 y1 y2 y3 y4 y5)) := by kernel_rfl
noncomputable def f1 (most8 : Int) (where9 : Int) : R := sh1 most8 where9
noncomputable def f3 (k2 : (List Df) → Int → Int → Int → Int → Int → R) (l0 : List Df) (length1 : Int) (width2 : Int) (most8 : Int) (where9 : Int) (i10 : Int) : R := sh3 l0 length1 width2 most8 where9 i10 k2
noncomputable def f2 : Nat → (List Df) → Int → Int → Int → Int → Int → R
  | 0 => fun _ _ _ _ _ _ => none
  | n + 1 => fun l0 length1 width2 most8 where9 i10 => sh2 l0 length1 width2 most8 where9 i10 f1 (f3 (f2 n))
noncomputable def f0 (l : List Df) (L : Int) (w : Int) : R := sh0 l L w (f2 100000)
theorem T1 (most8 : Int) (where9 : Int) : (hid ct1) (fr1 most8 where9) = f1 most8 where9 := by
  refine (congrFun (hid_eq _) _).trans <| (P1 most8 where9).trans ?_
  show _ = sh1 most8 where9
  rfl
theorem T3 (KL2 : Kont U El) (k2 : (List Df) → Int → Int → Int → Int → Int → R) (h2 : ∀ l0 length1 width2 most8 where9 i10, KL2 (fr2 l0 length1 width2 most8 where9 i10) = k2 l0 length1 width2 most8 where9 i10) (l0 : List Df) (length1 : Int) (width2 : Int) (most8 : Int) (where9 : Int) (i10 : Int) : (hid (ct3 (hid ct1) KL2)) (fr3 l0 length1 width2 most8 where9 i10) = f3 k2 l0 length1 width2 most8 where9 i10 := by
  refine (congrFun (hid_eq _) _).trans <| (P3 l0 length1 width2 most8 where9 i10 (hid ct1) KL2).trans ?_
  show _ = sh3 l0 length1 width2 most8 where9 i10 k2
  simp only [h2]
theorem T2 : ∀ (n : Nat), ∀ l0 length1 width2 most8 where9 i10, it2 (hid ct1) n (fr2 l0 length1 width2 most8 where9 i10) = f2 n l0 length1 width2 most8 where9 i10 := by
  intro n
  induction n with
  | zero => intros; rfl
  | succ n ih =>
    intro l0 length1 width2 most8 where9 i10
    refine (P2 l0 length1 width2 most8 where9 i10 (hid ct1) (it2 (hid ct1) n)).trans ?_
    show _ = sh2 l0 length1 width2 most8 where9 i10 f1 (f3 (f2 n))
    simp only [T1, T3 (it2 (hid ct1) n) (f2 n) ih]
theorem H2 (l0 : List Df) (length1 : Int) (width2 : Int) (most8 : Int) (where9 : Int) (i10 : Int) : hid (it2 (hid ct1) 100000) (fr2 l0 length1 width2 most8 where9 i10) = f2 100000 l0 length1 width2 most8 where9 i10 := (congrFun (hid_eq _) _).trans (T2 100000 l0 length1 width2 most8 where9 i10)
theorem T0 (l : List Df) (L : Int) (w : Int) : exec X bd (.seq none .d (.seq none .d (.seq (some nm1) (.seq none .d (.block (.loop nm2 (.seq none .d (.seq (some nm3) .d .d))))) .d))) (fr0 l L w) RR (fun _ _ => none) RR = f0 l L w := by
  refine (P0 l L w).trans ?_
  show _ = sh0 l L w (f2 100000)
  simp only [H2]
theorem run (l : List Df) (L : Int) (w : Int) : runFn X bd (.seq none .d (.seq none .d (.seq (some nm1) (.seq none .d (.block (.loop nm2 (.seq none .d (.seq (some nm3) .d .d))))) .d))) nmR [6, 7] [] [(.lst .df l), (.int .i64 L), (.int .i64 w)] = f0 l L w := T0 l L w
theorem loop (l : List Df) (L w : Int) (h : okW l = true) (hL : pos16 L = true) (hw : 0 ≤ w) (hwL : w ≤ L) : ∀ (n i : Nat) (b1 b2 : Int), l.length < n + i → i ≤ l.length → f2 n l L w b1 b2 (i : Int) = some (.tup [.int .i64 (rwst l L w (b1, b2) (l.drop i)).1, .int .i64 (rwst l L w (b1, b2) (l.drop i)).2], []) := by
  have hl := okW_len h
  have hL2 := pos16_iff.1 hL
  have hpw : pos0 w = true := pos0_iff.2 ⟨by omega, by omega⟩
  intro n
  induction n with
  | zero => intro i b1 b2 h1 h2; omega
  | succ n ih =>
    intro i b1 b2 h1 h2
    show sh2 l L w b1 b2 i f1 (f3 (f2 n)) = _
    unfold sh2
    by_cases hi : i < l.length
    · obtain ⟨hd, ha⟩ := okW_at h hi
      have hb := rAt_bound (L := L) hw hwL ha
      rw [iltT (by simp; omega), inbT hi, toNat_nat, getD_lt hi, wrapI (x := l[i].a - w) (by omega) (by omega), wrapI (x := L - w) (by omega) (by omega), show (bif ilt 0 (l[i].a - w) then l[i].a - w else 0) = atZ w l[i] from rfl,
        show (bif ilt (L - w) (atZ w l[i]) then L - w else atZ w l[i]) = rAt L w l[i] from rfl, h, hpw, pos0_iff.2 hb, drop_lt hi]
      simp only [rwst, f3, sh3, wrapS i (show i ≤ 1000000 by omega)]
      cases ilt b1 (winZ l (rAt L w l[i]) w)
      · cases winZ l (rAt L w l[i]) w == b1
        · exact ih (i + 1) _ _ (by omega) (by omega)
        · cases ilt (rAt L w l[i]) b2
          · exact ih (i + 1) _ _ (by omega) (by omega)
          · exact ih (i + 1) _ _ (by omega) (by omega)
      · exact ih (i + 1) _ _ (by omega) (by omega)
    · have : i = l.length := by omega
      subst this
      rw [iltF (by simp), List.drop_length]
      rfl
theorem f0_eq (l : List Df) (L w : Int) (h : (okW l && (pos16 L && (ile 0 w && ile w L))) = true) : f0 l L w = some (.tup [.int .i64 (rwor1 L w l), .int .i64 (rwor2 L w l)], []) := by
  simp only [Bool.and_eq_true] at h
  obtain ⟨h1, h2, h3, h4⟩ := h
  have hL2 := pos16_iff.1 h2
  have hl := okW_len h1
  have hw := ileI h3
  have hwL := ileI h4
  unfold f0 sh0
  rw [h1, show pos0 w = true from pos0_iff.2 ⟨by omega, by omega⟩]
  exact loop l L w h1 h2 hw hwL 100000 0 _ _ (by omega) (by omega)
theorem ok : CtxOk Tryd.prog X := ctxOk tab (by
  intro p hp
  simp only [List.mem_cons, List.not_mem_nil, or_false] at hp
  rcases hp with rfl
  · exact rwindow.spOk)
theorem okM : MOk Tryd.prog X := fun g sp h => by cases h
theorem spec (l : List Df) (L : Int) (w : Int) (h : ((okW l && (pos16 L && (ile 0 w && ile w L)))) = true) : CallSpec Tryd.prog E 24 [(.lst .df l), (.int .i64 L), (.int .i64 w)] (.tup [(.int .i64 (rwor1 L w l)), (.int .i64 (rwor2 L w l))]) [] :=
  runFn_sound ok okM Tryd.call24 Tryd.func24 (by kernel_rfl) (by kernel_rfl) (by kernel_rfl) (by show 3 ≤ 55; decide) (by decide) (by rfl) ((run l L w).trans (f0_eq l L w h))
noncomputable def sp : Sp U El := fun args k => match args with
  | [.lst .df l, .int .i64 L, .int .i64 w] => chk ((okW l && (pos16 L && (ile 0 w && ile w L)))) (k (.tup [(.int .i64 (rwor1 L w l)), (.int .i64 (rwor2 L w l))]) [])
  | _ => none
theorem spOk : SpOk Tryd.prog E 24 sp where
  det := fun vs => by
    unfold sp
    split
    · rename_i l L w
      cases hb : ((okW l && (pos16 L && (ile 0 w && ile w L))))
      · exact ⟨none, fun _ => rfl⟩
      · exact ⟨some (_, _), fun _ => rfl⟩
    · exact ⟨none, fun _ => rfl⟩
  ok := fun vs k r h => by
    unfold sp at h
    split at h
    · obtain ⟨h1, h2⟩ := chk_some h
      exact ⟨_, _, spec _ _ _ h1, h2⟩
    · cases h
end rworst
end Go.Proofs.YtnhmhcobpbilhaaDoor
