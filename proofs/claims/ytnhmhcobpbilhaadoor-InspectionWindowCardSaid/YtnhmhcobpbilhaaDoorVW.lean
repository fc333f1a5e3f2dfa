/- The law InspectionWindow: its run. -/
import Derived.Test.YtnhmhcobpbilhaaDoorVT
namespace Go.Proofs.YtnhmhcobpbilhaaDoor
set_option linter.unusedSectionVars false
set_option linter.unusedSimpArgs false
set_option linter.unusedVariables false
set_option maxRecDepth 100000

noncomputable def okV (l : List Df) : Bool := okW l && l.all (fun d => ilt 0 (pointsZ d.c))
theorem okV_at {l : List Df} (h : okV l = true) {i : Nat} (hi : i < l.length) : ilt 0 (pointsZ l[i].c) = true := by
  simp only [okV, Bool.and_eq_true] at h
  exact List.all_eq_true.1 h.2 _ (List.getElem_mem hi)
theorem chain_pts {L : Int} : ∀ {l : List Df} {p : Option Df}, chainB L p l = true → l.all (fun d => ilt 0 (pointsZ d.c)) = true := by
  intro l
  induction l with
  | nil => intros; rfl
  | cons d l ih =>
    intro p h
    simp only [chainB, Bool.and_eq_true] at h
    simp only [List.all_cons, Bool.and_eq_true]
    refine ⟨?_, ih h.2.2⟩
    have := h.1
    simp only [rightB, Bool.and_eq_true] at this
    exact this.1
theorem valid_okV {L : Int} {l : List Df} (h : validB L l = true) : okV l = true := by
  have h1 := (valid_okW h).1
  simp only [validB, Bool.and_eq_true] at h
  simp only [okV, Bool.and_eq_true]
  exact ⟨h1, chain_pts h.2.2⟩
theorem one_score {d : Df} (h : okD d = true) (hp : ilt 0 (pointsZ d.c) = true) : scoreE 1 [(⟨d.c, 0, 0, d.s⟩ : Df)] = 0 ∧ scoreZ 1 [(⟨d.c, 0, 0, d.s⟩ : Df)] = weightZ d := by
  obtain ⟨_, _, h1, h2⟩ := okD_iff.1 h
  have hv : validB 1 [(⟨d.c, 0, 0, d.s⟩ : Df)] = true := by
    show (true && (true && ((ilt 0 (pointsZ d.c) && (true && (true && (true && (true && (ile 1 d.s && ile d.s 5)))))) && (true && true)))) = true
    rw [hp, ileT h1, ileT h2]
    rfl
  have e : oneZ (⟨d.c, 0, 0, d.s⟩ : Df) = weightZ d := by
    show weightZ d * partsZ (⟨d.c, 0, 0, d.s⟩ : Df) = weightZ d
    have : partsZ (⟨d.c, 0, 0, d.s⟩ : Df) = 1 := by
      show (bif ilt 1 (Int.tdiv (0 + 999) 1000) then Int.tdiv (0 + 999) 1000 else 1) = 1
      decide
    rw [this, Int.mul_one]
  unfold scoreE scoreZ
  rw [hv]
  refine ⟨rfl, ?_⟩
  show oneZ _ + 0 = _
  rw [Int.add_zero]
  exact e

theorem win_le : ∀ {l : List Df} {x w y v : Int}, l.all okA = true → (∀ d ∈ l, d.a ≤ x + w → x ≤ d.a + d.l → d.a ≤ y + v ∧ y ≤ d.a + d.l) → winZ l x w ≤ winZ l y v := by
  intro l
  induction l with
  | nil => intros; simp [winZ]
  | cons d l ih =>
    intro x w y v h hd
    simp only [List.all_cons, Bool.and_eq_true] at h
    have h1 := weight_bound ((Bool.and_eq_true _ _).mp h.1).1
    have h2 := ih h.2 (fun e he => hd e (by simp [he]))
    simp only [winZ]
    have h3 := hd d (by simp)
    by_cases c : d.a ≤ x + w ∧ x ≤ d.a + d.l
    · obtain ⟨c1, c2⟩ := h3 c.1 c.2
      rw [ileT c.1, ileT c.2, ileT c1, ileT c2]
      simp only [Bool.and_self, cond_true]
      omega
    · have : (ile d.a (x + w) && ile x (d.a + d.l)) = false := by
        rw [Bool.and_eq_false_iff]
        by_cases c1 : d.a ≤ x + w
        · exact .inr (ileF (fun c2 => c ⟨c1, c2⟩))
        · exact .inl (ileF c1)
      rw [this]
      cases ile d.a (y + v) && ile y (d.a + d.l) <;> simp only [cond_true, cond_false] <;> omega

theorem last_in (x w : Int) : ∀ (r : List Df), (∀ d ∈ r, ¬ (d.a ≤ x + w ∧ x ≤ d.a + d.l)) ∨ ∃ m ∈ r, (m.a ≤ x + w ∧ x ≤ m.a + m.l) ∧ ∀ d ∈ r, d.a ≤ x + w → x ≤ d.a + d.l → d.a ≤ m.a := by
  intro r
  induction r with
  | nil => left; simp
  | cons e r ih =>
    by_cases c : e.a ≤ x + w ∧ x ≤ e.a + e.l
    · right
      rcases ih with h | ⟨m, hm, hc, hx⟩
      · refine ⟨e, by simp, c, fun d hd h1 h2 => ?_⟩
        rcases List.mem_cons.1 hd with rfl | hd
        · exact Int.le_refl _
        · exact absurd ⟨h1, h2⟩ (h d hd)
      · by_cases hle : e.a ≤ m.a
        · refine ⟨m, by simp [hm], hc, fun d hd h1 h2 => ?_⟩
          rcases List.mem_cons.1 hd with rfl | hd
          · exact hle
          · exact hx d hd h1 h2
        · refine ⟨e, by simp, c, fun d hd h1 h2 => ?_⟩
          rcases List.mem_cons.1 hd with rfl | hd
          · exact Int.le_refl _
          · have := hx d hd h1 h2; omega
    · rcases ih with h | ⟨m, hm, hc, hx⟩
      · left
        intro d hd
        rcases List.mem_cons.1 hd with rfl | hd
        · exact c
        · exact h d hd
      · right
        refine ⟨m, by simp [hm], hc, fun d hd h1 h2 => ?_⟩
        rcases List.mem_cons.1 hd with rfl | hd
        · exact absurd ⟨h1, h2⟩ c
        · exact hx d hd h1 h2

theorem at_ge (w : Int) (d : Df) : 0 ≤ atZ w d ∧ d.a - w ≤ atZ w d ∧ (atZ w d = 0 ∨ atZ w d = d.a - w) := by
  unfold atZ
  by_cases h : 0 < d.a - w
  · rw [iltT h]; exact ⟨by show 0 ≤ d.a - w; omega, Int.le_refl _, .inr rfl⟩
  · rw [iltF h]; exact ⟨Int.le_refl _, by show d.a - w ≤ 0; omega, .inl rfl⟩

theorem cand {l : List Df} {x w : Int} (hA : l.all okA = true) (hw : 0 ≤ w) (hx : 0 ≤ x) : ∃ c, (c = 0 ∨ ∃ d ∈ l, c = atZ w d) ∧ c ≤ x ∧ winZ l x w ≤ winZ l c w := by
  rcases last_in x w l with h | ⟨m, hm, hc, hmx⟩
  · exact ⟨0, .inl rfl, hx, win_le hA fun d hd h1 h2 => absurd ⟨h1, h2⟩ (h d hd)⟩
  · obtain ⟨g1, g2, g3⟩ := at_ge w m
    refine ⟨atZ w m, .inr ⟨m, hm, rfl⟩, by omega, win_le hA fun d hd h1 h2 => ?_⟩
    have := hmx d hd h1 h2
    constructor <;> omega

theorem chain_sorted {L : Int} : ∀ {l : List Df} {p : Option Df}, chainB L p l = true → (∀ q, p = some q → ∀ e ∈ l, q.a ≤ e.a) ∧ l.Pairwise (fun q d => q.a ≤ d.a) := by
  intro l
  induction l with
  | nil => intro p _; exact ⟨by simp, List.Pairwise.nil⟩
  | cons d l ih =>
    intro p h
    simp only [chainB, Bool.and_eq_true] at h
    obtain ⟨i1, i2⟩ := ih h.2.2
    have hd := i1 d rfl
    refine ⟨fun q hq e he => ?_, List.pairwise_cons.2 ⟨hd, i2⟩⟩
    subst hq
    have := before_le h.2.1
    rcases List.mem_cons.1 he with rfl | he
    · exact this
    · have := hd e he; omega

theorem wst_spec (l0 : List Df) (w : Int) : ∀ (r : List Df) (b : Int × Int) (lo : Int), r.Pairwise (fun q d => q.a ≤ d.a) → b.1 = winZ l0 b.2 w → b.2 ≤ lo → (∀ d ∈ r, lo ≤ atZ w d) →
    (wst l0 w b r).1 = winZ l0 (wst l0 w b r).2 w ∧ b.1 ≤ (wst l0 w b r).1 ∧ b.2 ≤ (wst l0 w b r).2 ∧ (b.2 < (wst l0 w b r).2 → b.1 < (wst l0 w b r).1) ∧
    (∀ d ∈ r, winZ l0 (atZ w d) w ≤ (wst l0 w b r).1 ∧ (atZ w d < (wst l0 w b r).2 → winZ l0 (atZ w d) w < (wst l0 w b r).1)) ∧ ((wst l0 w b r).2 = b.2 ∨ ∃ d ∈ r, (wst l0 w b r).2 = atZ w d) := by
  intro r
  induction r with
  | nil => intro b lo _ h1 h2 h3; exact ⟨h1, Int.le_refl _, Int.le_refl _, fun h => absurd h (Int.lt_irrefl _), by simp, .inl rfl⟩
  | cons d r ih =>
    intro b lo hs h1 h2 h3
    obtain ⟨hs1, hs2⟩ := List.pairwise_cons.1 hs
    have hlo := h3 d (by simp)
    have hnext : ∀ e ∈ r, atZ w d ≤ atZ w e := fun e he => at_mono (hs1 e he)
    simp only [wst]
    cases hb : ilt b.1 (winZ l0 (atZ w d) w)
    · have hb := iltN hb
      simp only [cond_false]
      obtain ⟨i1, i2, i3, i4, i5, i6⟩ := ih b (atZ w d) hs2 h1 (by omega) hnext
      refine ⟨i1, i2, i3, i4, fun e he => ?_, ?_⟩
      · rcases List.mem_cons.1 he with rfl | he
        · exact ⟨by omega, fun hc => by have := i4 (by omega); omega⟩
        · exact i5 e he
      · rcases i6 with h | ⟨e, he, h⟩
        · exact .inl h
        · exact .inr ⟨e, by simp [he], h⟩
    · have hb := iltI hb
      simp only [cond_true]
      obtain ⟨i1, i2, i3, i4, i5, i6⟩ := ih (winZ l0 (atZ w d) w, atZ w d) (atZ w d) hs2 rfl (Int.le_refl _) hnext
      simp only at i2 i3 i4 i6
      refine ⟨i1, by omega, by omega, fun _ => by omega, fun e he => ?_, ?_⟩
      · rcases List.mem_cons.1 he with rfl | he
        · exact ⟨i2, i4⟩
        · exact i5 e he
      · rcases i6 with h | ⟨e, he, h⟩
        · exact .inr ⟨d, by simp, h⟩
        · exact .inr ⟨e, by simp [he], h⟩

/-- the worst window of a list that is an inspection -/
theorem wor_spec {L w : Int} {l : List Df} (hv : validB L l = true) (hw : 0 ≤ w) (hwL : w ≤ L) :
    wor1 L w l = winZ l (wor2 L w l) w ∧ 0 ≤ wor2 L w l ∧ wor2 L w l ≤ L - w ∧ (∀ x, 0 ≤ x → winZ l x w ≤ wor1 L w l ∧ (x < wor2 L w l → winZ l x w < wor1 L w l)) ∧ winZ l 0 w ≤ wor1 L w l := by
  obtain ⟨hok, hL⟩ := valid_okW hv
  have hA : l.all okA = true := ((Bool.and_eq_true _ _).mp hok).2
  have hch : chainB L none l = true := by simp only [validB, Bool.and_eq_true] at hv; exact hv.2.2
  have hg : goW L w l = true := by simp only [goW, hv, Bool.true_and, Bool.and_eq_true]; exact ⟨ileT hw, ileT hwL⟩
  unfold wor1 wor2
  rw [hg]
  simp only [cond_true]
  obtain ⟨i1, i2, i3, i4, i5, i6⟩ := wst_spec l w l (winZ l 0 w, 0) 0 (chain_sorted hch).2 rfl (Int.le_refl _) (fun d _ => (at_ge w d).1)
  simp only at i2 i3 i4 i6
  have hda : ∀ d ∈ l, d.a ≤ L := by
    have : ∀ {r : List Df} {p : Option Df}, chainB L p r = true → ∀ d ∈ r, d.a ≤ L := by
      intro r
      induction r with
      | nil => intro p _ d hd; cases hd
      | cons e r ih =>
        intro p h d hd
        simp only [chainB, Bool.and_eq_true] at h
        rcases List.mem_cons.1 hd with rfl | hd
        · have := h.1
          simp only [rightB, Bool.and_eq_true] at this
          exact ileI this.2.2.1
        · exact ih h.2.2 d hd
    exact this hch
  refine ⟨i1, i3, ?_, fun x hx => ?_, i2⟩
  · rcases i6 with h | ⟨d, hd, h⟩
    · omega
    · have := at_ge w d; have := hda d hd; omega
  · obtain ⟨c, hc, hcx, hle⟩ := cand hA hw hx
    rcases hc with rfl | ⟨d, hd, rfl⟩
    · exact ⟨by omega, fun hlt => by have := i4 (by omega); omega⟩
    · obtain ⟨j1, j2⟩ := i5 d hd
      exact ⟨by omega, fun hlt => by have := j2 (by omega); omega⟩

namespace lwin
noncomputable def bd : Code := (Tryd.f18.body).getD .skip
noncomputable def X : Ctx U El := ⟨E, tds, zeros, eqs, specOf [(12, score.sp)], 100000, 50, fun _ => none⟩
noncomputable def nmR : Norm U := ⟨[], [4], []⟩
noncomputable def RR : Kont U El := fun st => normK nmR st (retFin [4] [])
noncomputable def nm1 : Norm U := ⟨[], [5], []⟩
noncomputable def nm2 : Norm U := ⟨[], [0, 2, 5, 11, 12, 13], []⟩
noncomputable def nm3 : Norm U := ⟨[], [0, 2, 5, 11, 12, 13], []⟩
noncomputable def fr0 (x : Int) (l : List Df) (w : Int) : St U El := ⟨[(0, (.int .i64 x)), (1, (.pcs [(.lst .df l)] 0)), (2, (.pcs [(.int .i64 w)] 0))], []⟩
noncomputable def fr1 (n5 : Int) : St U El := ⟨[(5, (.int .i64 n5))], []⟩
noncomputable def fr2 (x0 : Int) (x2_0 : Int) (n5 : Int) (x11 : List Df) (x12 : Int) (x13 : Int) : St U El := ⟨[(0, (.int .i64 x0)), (2, (.pcs [(.int .i64 x2_0)] 0)), (5, (.int .i64 n5)), (11, (.lst .df x11)), (12, (.int .i64 x12)), (13, (.int .i64 x13))], []⟩
noncomputable def fr3 (x0 : Int) (x2_0 : Int) (n5 : Int) (x11 : List Df) (x12 : Int) (x13 : Int) : St U El := ⟨[(0, (.int .i64 x0)), (2, (.pcs [(.int .i64 x2_0)] 0)), (5, (.int .i64 n5)), (11, (.lst .df x11)), (12, (.int .i64 x12)), (13, (.int .i64 x13))], []⟩
noncomputable def sh0 (x : Int) (l : List Df) (w : Int) (k2 : Int → Int → Int → (List Df) → Int → Int → R) : R :=
  k2 x w (0 : Int) l (Int.ofNat (List.length l)) (0 : Int)
noncomputable def sh1 (n5 : Int) : R :=
  some ((.int .i64 n5), [])
noncomputable def sh2 (x0 : Int) (x2_0 : Int) (n5 : Int) (x11 : List Df) (x12 : Int) (x13 : Int) (k1 : Int → R) (k3 : Int → Int → Int → (List Df) → Int → Int → R) : R :=
  condB (ilt x13 x12) (chk (inb x13 (List.length x11)) (condB (ile ((List.getD x11 (Int.toNat x13) d_df).a) (IntKind.wrap .i64 (x0 + x2_0))) (condB (ile x0 (IntKind.wrap .i64 ((List.getD x11 (Int.toNat x13) d_df).a + (List.getD x11 (Int.toNat x13) d_df).l))) (condB ((scoreE (1 : Int) ([(⟨(List.getD x11 (Int.toNat x13) d_df).c, (0 : Int), (0 : Int), (List.getD x11 (Int.toNat x13) d_df).s⟩ : Df)] : List Df)) != (0 : Int)) (some ((.int .i64 (-1 : Int)), [])) (k3 x0 x2_0 (IntKind.wrap .i64 (n5 + (scoreZ (1 : Int) ([(⟨(List.getD x11 (Int.toNat x13) d_df).c, (0 : Int), (0 : Int), (List.getD x11 (Int.toNat x13) d_df).s⟩ : Df)] : List Df)))) x11 x12 x13)) (k3 x0 x2_0 n5 x11 x12 x13)) (k3 x0 x2_0 n5 x11 x12 x13))) (k1 n5)
noncomputable def sh3 (x0 : Int) (x2_0 : Int) (n5 : Int) (x11 : List Df) (x12 : Int) (x13 : Int) (k2 : Int → Int → Int → (List Df) → Int → Int → R) : R :=
  k2 x0 x2_0 n5 x11 x12 (IntKind.wrap .i64 (x13 + (1 : Int)))
noncomputable def it2 (Kb1 : Kont U El) (n : Nat) : Kont U El := iter nm2 (fun st' K' => exec X (cdp [1, 1, 0, 1, 0, 0] bd) (.seq none .d (.seq none .d (.seq (some nm3) .d .d))) st' K' (Eblk 0 (cutK nm1 Kb1) (fun _ _ => none)) RR) n
noncomputable def ct1 : Kont U El := fun st => exec X (cdp [1, 1, 1] bd) .d st RR (fun _ _ => none) RR
noncomputable def ct3 (Kb1 : Kont U El) (Kb2 : Kont U El) : Kont U El := fun st => exec X (cdp [1, 1, 0, 1, 0, 0, 1, 1, 1] bd) .d st (cutK nm2 Kb2) (Eblk 0 (cutK nm1 Kb1) (fun _ _ => none)) RR
theorem P0 (x : Int) (l : List Df) (w : Int) : exec X (cdp [] bd) (.seq none .d (.seq none .d (.seq (some nm1) (.seq none .d (.block (.loop nm2 (.seq none .d (.seq none .d (.seq (some nm3) .d .d)))))) .d))) (fr0 x l w) RR (fun _ _ => none) RR = sh0 x l w (fun y0 y1 y2 y3 y4 y5 => (hid (it2 (hid ct1) 100000)) (fr2 y0 y1 y2 y3 y4 y5)) := by kernel_rfl
theorem P1 (n5 : Int) : exec X (cdp [1, 1, 1] bd) .d (fr1 n5) RR (fun _ _ => none) RR = sh1 n5 := by kernel_rfl
theorem P2 (x0 : Int) (x2_0 : Int) (n5 : Int) (x11 : List Df) (x12 : Int) (x13 : Int) (Kb1 : Kont U El) (Kb2 : Kont U El) : exec X (cdp [1, 1, 0, 1, 0, 0] bd) (.seq none .d (.seq none .d (.seq (some nm3) .d .d))) (fr2 x0 x2_0 n5 x11 x12 x13) (cutK nm2 Kb2) (Eblk 0 (cutK nm1 Kb1) (fun _ _ => none)) RR = sh2 x0 x2_0 n5 x11 x12 x13 (fun y0 => Kb1 (fr1 y0)) (fun y0 y1 y2 y3 y4 y5 => (hid (ct3 Kb1 Kb2)) (fr3 y0 y1 y2 y3 y4 y5)) := by kernel_rfl
theorem P3 (x0 : Int) (x2_0 : Int) (n5 : Int) (x11 : List Df) (x12 : Int) (x13 : Int) (Kb1 : Kont U El) (Kb2 : Kont U El) : exec X (cdp [1, 1, 0, 1, 0, 0, 1, 1, 1] bd) .d (fr3 x0 x2_0 n5 x11 x12 x13) (cutK nm2 Kb2) (Eblk 0 (cutK nm1 Kb1) (fun _ _ => none)) RR = sh3 x0 x2_0 n5 x11 x12 x13 (fun y0 y1 y2 y3 y4 y5 => Kb2 (fr2 y0 y1 y2 y3 y4 y5)) := by kernel_rfl
noncomputable def f1 (n5 : Int) : R := sh1 n5
noncomputable def f3 (k2 : Int → Int → Int → (List Df) → Int → Int → R) (x0 : Int) (x2_0 : Int) (n5 : Int) (x11 : List Df) (x12 : Int) (x13 : Int) : R := sh3 x0 x2_0 n5 x11 x12 x13 k2
noncomputable def f2 : Nat → Int → Int → Int → (List Df) → Int → Int → R
  | 0 => fun _ _ _ _ _ _ => none
  | n + 1 => fun x0 x2_0 n5 x11 x12 x13 => sh2 x0 x2_0 n5 x11 x12 x13 f1 (f3 (f2 n))
noncomputable def f0 (x : Int) (l : List Df) (w : Int) : R := sh0 x l w (f2 100000)
theorem T1 (n5 : Int) : (hid ct1) (fr1 n5) = f1 n5 := by
  refine (congrFun (hid_eq _) _).trans <| (P1 n5).trans ?_
  show _ = sh1 n5
  rfl
theorem T3 (KL2 : Kont U El) (k2 : Int → Int → Int → (List Df) → Int → Int → R) (h2 : ∀ x0 x2_0 n5 x11 x12 x13, KL2 (fr2 x0 x2_0 n5 x11 x12 x13) = k2 x0 x2_0 n5 x11 x12 x13) (x0 : Int) (x2_0 : Int) (n5 : Int) (x11 : List Df) (x12 : Int) (x13 : Int) : (hid (ct3 (hid ct1) KL2)) (fr3 x0 x2_0 n5 x11 x12 x13) = f3 k2 x0 x2_0 n5 x11 x12 x13 := by
  refine (congrFun (hid_eq _) _).trans <| (P3 x0 x2_0 n5 x11 x12 x13 (hid ct1) KL2).trans ?_
  show _ = sh3 x0 x2_0 n5 x11 x12 x13 k2
  simp only [h2]
theorem T2 : ∀ (n : Nat), ∀ x0 x2_0 n5 x11 x12 x13, it2 (hid ct1) n (fr2 x0 x2_0 n5 x11 x12 x13) = f2 n x0 x2_0 n5 x11 x12 x13 := by
  intro n
  induction n with
  | zero => intros; rfl
  | succ n ih =>
    intro x0 x2_0 n5 x11 x12 x13
    refine (P2 x0 x2_0 n5 x11 x12 x13 (hid ct1) (it2 (hid ct1) n)).trans ?_
    show _ = sh2 x0 x2_0 n5 x11 x12 x13 f1 (f3 (f2 n))
    simp only [T1, T3 (it2 (hid ct1) n) (f2 n) ih]
theorem H2 (x0 : Int) (x2_0 : Int) (n5 : Int) (x11 : List Df) (x12 : Int) (x13 : Int) : hid (it2 (hid ct1) 100000) (fr2 x0 x2_0 n5 x11 x12 x13) = f2 100000 x0 x2_0 n5 x11 x12 x13 := (congrFun (hid_eq _) _).trans (T2 100000 x0 x2_0 n5 x11 x12 x13)
theorem T0 (x : Int) (l : List Df) (w : Int) : exec X bd (.seq none .d (.seq none .d (.seq (some nm1) (.seq none .d (.block (.loop nm2 (.seq none .d (.seq none .d (.seq (some nm3) .d .d)))))) .d))) (fr0 x l w) RR (fun _ _ => none) RR = f0 x l w := by
  refine (P0 x l w).trans ?_
  show _ = sh0 x l w (f2 100000)
  simp only [H2]
theorem run (x : Int) (l : List Df) (w : Int) : runFn X bd (.seq none .d (.seq none .d (.seq (some nm1) (.seq none .d (.block (.loop nm2 (.seq none .d (.seq none .d (.seq (some nm3) .d .d)))))) .d))) nmR [4] [] [(.int .i64 x), (.pcs [(.lst .df l)] 0), (.pcs [(.int .i64 w)] 0)] = f0 x l w := T0 x l w
theorem loop (l : List Df) (x w : Int) (h : okV l = true) (hx : pos0 x = true) (hw : pos0 w = true) : ∀ (n i : Nat) (s : Int), l.length < n + i → i ≤ l.length → 0 ≤ s → s ≤ 320 * i → f2 n x w s l (Int.ofNat l.length) (i : Int) = some (.int .i64 (s + winZ (l.drop i) x w), []) := by
  have hok : okW l = true := ((Bool.and_eq_true _ _).mp h).1
  have hl := okW_len hok
  have hx := pos0_iff.1 hx
  have hw := pos0_iff.1 hw
  intro n
  induction n with
  | zero => intro i s h1 h2; omega
  | succ n ih =>
    intro i s h1 h2 hs0 hs1
    show sh2 x w s l (Int.ofNat l.length) i f1 (f3 (f2 n)) = _
    unfold sh2
    by_cases hi : i < l.length
    · obtain ⟨hd, ha1, ha2⟩ := okW_at hok hi
      obtain ⟨hl1, hl2, _, _⟩ := okD_iff.1 hd
      have ho := weight_bound hd
      obtain ⟨e1, e2⟩ := one_score hd (okV_at h hi)
      rw [iltT (by simp; omega), inbT hi, toNat_nat, getD_lt hi, wrapI (x := x + w) (by omega) (by omega), wrapI (x := l[i].a + l[i].l) (by omega) (by omega), e1, e2, wrapI (x := s + weightZ l[i]) (by omega) (by omega), drop_lt hi]
      simp only [winZ, f3, sh3, wrapS i (show i ≤ 1000000 by omega)]
      cases ile l[i].a (x + w)
      · refine (ih (i + 1) s (by omega) (by omega) (by omega) (by omega)).trans ?_
        simp
      · cases ile x (l[i].a + l[i].l)
        · refine (ih (i + 1) s (by omega) (by omega) (by omega) (by omega)).trans ?_
          simp
        · refine (ih (i + 1) (s + weightZ l[i]) (by omega) (by omega) (by omega) (by omega)).trans ?_
          simp [Int.add_assoc]
    · have : i = l.length := by omega
      subst this
      rw [iltF (by simp), List.drop_length, show s + winZ [] x w = s by simp [winZ]]
      rfl
theorem f0_eq (x : Int) (l : List Df) (w : Int) (h : (okV l && (pos0 x && pos0 w)) = true) : f0 x l w = some (.int .i64 (winZ l x w), []) := by
  simp only [Bool.and_eq_true] at h
  have hl := okW_len ((Bool.and_eq_true _ _).mp h.1).1
  refine (loop l x w h.1 h.2.1 h.2.2 100000 0 0 (by omega) (by omega) (by omega) (by omega)).trans ?_
  rw [Int.zero_add]; rfl
theorem ok : CtxOk Tryd.prog X := ctxOk tab (by
  intro p hp
  simp only [List.mem_cons, List.not_mem_nil, or_false] at hp
  rcases hp with rfl
  · exact score.spOk)
theorem okM : MOk Tryd.prog X := fun g sp h => by cases h
theorem spec (x : Int) (l : List Df) (w : Int) (h : ((okV l && (pos0 x && pos0 w))) = true) : CallSpec Tryd.prog E 18 [(.int .i64 x), (.pcs [(.lst .df l)] 0), (.pcs [(.int .i64 w)] 0)] (.int .i64 (winZ l x w)) [] :=
  runFn_sound ok okM Tryd.call18 Tryd.func18 (by kernel_rfl) (by kernel_rfl) (by kernel_rfl) (by show 3 ≤ 50; decide) (by decide) (by rfl) ((run x l w).trans (f0_eq x l w h))
noncomputable def sp : Sp U El := fun args k => match args with
  | [.int .i64 x, .pcs [.lst .df l] 0, .pcs [.int .i64 w] 0] => chk ((okV l && (pos0 x && pos0 w))) (k (.int .i64 (winZ l x w)) [])
  | _ => none
theorem spOk : SpOk Tryd.prog E 18 sp where
  det := fun vs => by
    unfold sp
    split
    · rename_i x l w
      cases hb : ((okV l && (pos0 x && pos0 w)))
      · exact ⟨none, fun _ => rfl⟩
      · exact ⟨some (_, _), fun _ => rfl⟩
    · exact ⟨none, fun _ => rfl⟩
  ok := fun vs k r h => by
    unfold sp at h
    split at h
    · obtain ⟨h1, h2⟩ := chk_some h
      exact ⟨_, _, spec _ _ _ h1, h2⟩
    · cases h
end lwin

namespace lawWindow
noncomputable def bd : Code := (Tryd.f4.body).getD .skip
noncomputable def X : Ctx U El := ⟨E, tds, zeros, eqs, specOf [(10, awake.sp), (11, few.sp), (14, rvalid.sp), (17, worst.sp), (18, lwin.sp)], 100000, 120, fun _ => none⟩
noncomputable def nmR : Norm U := ⟨[], [8], []⟩
noncomputable def RR : Kont U El := fun st => normK nmR st (retFin [8] [])
noncomputable def nm1 : Norm U := ⟨[], [1, 3, 4, 6], [4, 6]⟩
noncomputable def nm2 : Norm U := ⟨[], [1, 3, 4, 6, 9, 10], [4, 6]⟩
noncomputable def nm3 : Norm U := ⟨[], [1, 4, 9], [4]⟩
noncomputable def fr0 (l : List Df) (L : Int) (w : Int) (x : Int) : St U El := ⟨[(0, (.lst .df l)), (1, (.int .i64 L)), (2, (.int .i64 w)), (3, (.int .i64 x))], []⟩
noncomputable def fr1 (length1 : Int) (x3 : Int) (b4_0 : List Df) (b6_0 : Int) : St U El := ⟨[(1, (.int .i64 length1)), (3, (.int .i64 x3)), (4, (.ptr 4 0)), (6, (.ptr 6 0))], [(4, (.box [(.lst .df b4_0)])), (6, (.box [(.int .i64 b6_0)]))]⟩
noncomputable def fr2 (length1 : Int) (x3 : Int) (w9 : Int) (at10 : Int) (b4_0 : List Df) (b6_0 : Int) : St U El := ⟨[(1, (.int .i64 length1)), (3, (.int .i64 x3)), (4, (.ptr 4 0)), (6, (.ptr 6 0)), (9, (.int .i64 w9)), (10, (.int .i64 at10))], [(4, (.box [(.lst .df b4_0)])), (6, (.box [(.int .i64 b6_0)]))]⟩
noncomputable def fr3 (length1 : Int) (w9 : Int) (b4_0 : List Df) : St U El := ⟨[(1, (.int .i64 length1)), (4, (.ptr 4 0)), (9, (.int .i64 w9))], [(4, (.box [(.lst .df b4_0)]))]⟩
noncomputable def sh0 (l : List Df) (L : Int) (w : Int) (x : Int) (k1 : Int → Int → (List Df) → Int → R) : R :=
  condB (!(true)) (some ((.bool false), [])) (condB (!(fewB l)) (some ((.bool true), [])) (condB (!(validB L l)) (some ((.bool true), [])) (condB (ilt w (0 : Int)) (some ((.bool true), [])) (condB (ilt L w) (some ((.bool true), [])) (condB (ilt x (0 : Int)) (some ((.bool true), [])) (condB (ilt (IntKind.wrap .i64 (L - w)) x) (some ((.bool true), [])) (k1 L x l w)))))))
noncomputable def sh1 (length1 : Int) (x3 : Int) (b4_0 : List Df) (b6_0 : Int) (k2 : Int → Int → Int → Int → (List Df) → Int → R) : R :=
  condB ((worE length1 b6_0 b4_0) != (0 : Int)) (some ((.bool false), [])) (condB (ilt (wor2 length1 b6_0 b4_0) (0 : Int)) (some ((.bool false), [])) (condB (ilt (IntKind.wrap .i64 (length1 - b6_0)) (wor2 length1 b6_0 b4_0)) (some ((.bool false), [])) (k2 length1 x3 (wor1 length1 b6_0 b4_0) (wor2 length1 b6_0 b4_0) b4_0 b6_0)))
noncomputable def sh2 (length1 : Int) (x3 : Int) (w9 : Int) (at10 : Int) (b4_0 : List Df) (b6_0 : Int) (k3 : Int → Int → (List Df) → R) : R :=
  chk ((okV b4_0 && (pos0 at10 && pos0 b6_0))) (condB ((winZ b4_0 at10 b6_0) != w9) (some ((.bool false), [])) (chk ((okV b4_0 && (pos0 x3 && pos0 b6_0))) (condB (ilt w9 (winZ b4_0 x3 b6_0)) (some ((.bool false), [])) (condB (ilt x3 at10) (chk ((okV b4_0 && (pos0 x3 && pos0 b6_0))) (condB ((winZ b4_0 x3 b6_0) == w9) (some ((.bool false), [])) (condB (ilt (0 : Int) at10) (chk ((okV b4_0 && (pos0 (IntKind.wrap .i64 (at10 - (1 : Int))) && pos0 b6_0))) (condB (ile w9 (winZ b4_0 (IntKind.wrap .i64 (at10 - (1 : Int))) b6_0)) (some ((.bool false), [])) (k3 length1 w9 b4_0))) (k3 length1 w9 b4_0)))) (condB (ilt (0 : Int) at10) (chk ((okV b4_0 && (pos0 (IntKind.wrap .i64 (at10 - (1 : Int))) && pos0 b6_0))) (condB (ile w9 (winZ b4_0 (IntKind.wrap .i64 (at10 - (1 : Int))) b6_0)) (some ((.bool false), [])) (k3 length1 w9 b4_0))) (k3 length1 w9 b4_0))))))
noncomputable def sh3 (length1 : Int) (w9 : Int) (b4_0 : List Df) : R :=
  condB ((worE length1 length1 b4_0) == (0 : Int)) (some ((.bool (ile w9 (wor1 length1 length1 b4_0))), [])) (some ((.bool false), []))
noncomputable def ct1 : Kont U El := fun st => exec X (cdp [1, 1, 1] bd) (.seq none .d (.seq (some nm2) .d (.seq none .d (.seq (some nm3) .d .d)))) st RR (fun _ _ => none) RR
noncomputable def ct2 : Kont U El := fun st => exec X (cdp [1, 1, 1, 1, 1] bd) (.seq none .d (.seq (some nm3) .d .d)) st RR (fun _ _ => none) RR
noncomputable def ct3 : Kont U El := fun st => exec X (cdp [1, 1, 1, 1, 1, 1, 1] bd) .d st RR (fun _ _ => none) RR
theorem P0 (l : List Df) (L : Int) (w : Int) (x : Int) : exec X (cdp [] bd) (.seq none .d (.seq none .d (.seq (some nm1) .d (.seq none .d (.seq (some nm2) .d (.seq none .d (.seq (some nm3) .d .d))))))) (fr0 l L w x) RR (fun _ _ => none) RR = sh0 l L w x (fun y0 y1 y2 y3 => (hid ct1) (fr1 y0 y1 y2 y3)) := by kernel_rfl
theorem P1 (length1 : Int) (x3 : Int) (b4_0 : List Df) (b6_0 : Int) : exec X (cdp [1, 1, 1] bd) (.seq none .d (.seq (some nm2) .d (.seq none .d (.seq (some nm3) .d .d)))) (fr1 length1 x3 b4_0 b6_0) RR (fun _ _ => none) RR = sh1 length1 x3 b4_0 b6_0 (fun y0 y1 y2 y3 y4 y5 => (hid ct2) (fr2 y0 y1 y2 y3 y4 y5)) := by kernel_rfl
theorem P2 (length1 : Int) (x3 : Int) (w9 : Int) (at10 : Int) (b4_0 : List Df) (b6_0 : Int) : exec X (cdp [1, 1, 1, 1, 1] bd) (.seq none .d (.seq (some nm3) .d .d)) (fr2 length1 x3 w9 at10 b4_0 b6_0) RR (fun _ _ => none) RR = sh2 length1 x3 w9 at10 b4_0 b6_0 (fun y0 y1 y2 => (hid ct3) (fr3 y0 y1 y2)) := by kernel_rfl
theorem P3 (length1 : Int) (w9 : Int) (b4_0 : List Df) : exec X (cdp [1, 1, 1, 1, 1, 1, 1] bd) .d (fr3 length1 w9 b4_0) RR (fun _ _ => none) RR = sh3 length1 w9 b4_0 := by kernel_rfl
noncomputable def f3 (length1 : Int) (w9 : Int) (b4_0 : List Df) : R := sh3 length1 w9 b4_0
noncomputable def f2 (length1 : Int) (x3 : Int) (w9 : Int) (at10 : Int) (b4_0 : List Df) (b6_0 : Int) : R := sh2 length1 x3 w9 at10 b4_0 b6_0 f3
noncomputable def f1 (length1 : Int) (x3 : Int) (b4_0 : List Df) (b6_0 : Int) : R := sh1 length1 x3 b4_0 b6_0 f2
noncomputable def f0 (l : List Df) (L : Int) (w : Int) (x : Int) : R := sh0 l L w x f1
theorem T3 (length1 : Int) (w9 : Int) (b4_0 : List Df) : (hid ct3) (fr3 length1 w9 b4_0) = f3 length1 w9 b4_0 := by
  refine (congrFun (hid_eq _) _).trans <| (P3 length1 w9 b4_0).trans ?_
  show _ = sh3 length1 w9 b4_0
  rfl
theorem T2 (length1 : Int) (x3 : Int) (w9 : Int) (at10 : Int) (b4_0 : List Df) (b6_0 : Int) : (hid ct2) (fr2 length1 x3 w9 at10 b4_0 b6_0) = f2 length1 x3 w9 at10 b4_0 b6_0 := by
  refine (congrFun (hid_eq _) _).trans <| (P2 length1 x3 w9 at10 b4_0 b6_0).trans ?_
  show _ = sh2 length1 x3 w9 at10 b4_0 b6_0 f3
  simp only [T3]
theorem T1 (length1 : Int) (x3 : Int) (b4_0 : List Df) (b6_0 : Int) : (hid ct1) (fr1 length1 x3 b4_0 b6_0) = f1 length1 x3 b4_0 b6_0 := by
  refine (congrFun (hid_eq _) _).trans <| (P1 length1 x3 b4_0 b6_0).trans ?_
  show _ = sh1 length1 x3 b4_0 b6_0 f2
  simp only [T2]
theorem T0 (l : List Df) (L : Int) (w : Int) (x : Int) : exec X bd (.seq none .d (.seq none .d (.seq (some nm1) .d (.seq none .d (.seq (some nm2) .d (.seq none .d (.seq (some nm3) .d .d))))))) (fr0 l L w x) RR (fun _ _ => none) RR = f0 l L w x := by
  refine (P0 l L w x).trans ?_
  show _ = sh0 l L w x f1
  simp only [T1]
theorem run (l : List Df) (L : Int) (w : Int) (x : Int) : runFn X bd (.seq none .d (.seq none .d (.seq (some nm1) .d (.seq none .d (.seq (some nm2) .d (.seq none .d (.seq (some nm3) .d .d))))))) nmR [8] [] [(.lst .df l), (.int .i64 L), (.int .i64 w), (.int .i64 x)] = f0 l L w x := T0 l L w x
theorem f0_eq (l : List Df) (L w x : Int) : f0 l L w x = some (.bool true, []) := by
  unfold f0 sh0
  simp only [Bool.not_true, condB, cond_false]
  cases fewB l
  · rfl
  cases hv : validB L l
  · rfl
  obtain ⟨hok, hL⟩ := valid_okW hv
  have hL := pos16_iff.1 hL
  simp only [Bool.not_true, cond_false]
  by_cases h1 : w < 0
  · rw [iltT h1]; rfl
  by_cases h2 : L < w
  · rw [iltF h1, iltT h2]; rfl
  by_cases h3 : x < 0
  · rw [iltF h1, iltF h2, iltT h3]; rfl
  rw [iltF h1, iltF h2, iltF h3, wrapI (x := L - w) (by omega) (by omega)]
  by_cases h4 : L - w < x
  · rw [iltT h4]; rfl
  rw [iltF h4]
  simp only [cond_false]
  obtain ⟨g1, g2, g3, g4, g5⟩ := wor_spec hv (w := w) (by omega) (by omega)
  have hE : ∀ v : Int, 0 ≤ v → v ≤ L → worE L v l = 0 := fun v h5 h6 => by unfold worE; rw [hv, ileT h5, ileT h6]; rfl
  have hV := valid_okV hv
  have hp : ∀ {y : Int}, 0 ≤ y → y ≤ L → pos0 y = true := fun h5 h6 => pos0_iff.2 ⟨h5, by omega⟩
  have h3' : f3 L (wor1 L w l) l = some (.bool true, []) := by
    unfold f3 sh3
    obtain ⟨k1, k2, k3, k4, k5⟩ := wor_spec hv (w := L) (by omega) (by omega)
    have hA : l.all okA = true := ((Bool.and_eq_true _ _).mp hok).2
    have hall : winZ l (wor2 L w l) w ≤ winZ l 0 L := win_le hA fun d hd h5 h6 => by
      have h7 := (Bool.and_eq_true _ _).mp (List.all_eq_true.1 hA d hd)
      have h8 := pos0_iff.1 h7.2
      have h9 := okD_iff.1 h7.1
      have : d.a ≤ L := by
        have hch : chainB L none l = true := by simp only [validB, Bool.and_eq_true] at hv; exact hv.2.2
        omega
      omega
    rw [hE L (by omega) (by omega), ileT (show wor1 L w l ≤ wor1 L L l by omega)]
    rfl
  show f1 L x l w = _
  unfold f1 sh1
  rw [hE w (by omega) (by omega), iltF (show ¬ wor2 L w l < 0 by omega), wrapI (x := L - w) (by omega) (by omega), iltF (show ¬ L - w < wor2 L w l by omega)]
  show f2 L x (wor1 L w l) (wor2 L w l) l w = _
  unfold f2 sh2
  rw [hV, hp (y := wor2 L w l) (by omega) (by omega), hp (y := w) (by omega) (by omega), hp (y := x) (by omega) (by omega), iltF (show ¬ wor1 L w l < winZ l x w by have := (g4 x (by omega)).1; omega), ← g1]
  simp only [condB, chk, Bool.and_self, cond_true, cond_false, bne_self_eq_false]
  have hlast : (bif ilt 0 (wor2 L w l) then (bif pos0 (IntKind.wrap .i64 (wor2 L w l - 1)) then (bif ile (wor1 L w l) (winZ l (IntKind.wrap .i64 (wor2 L w l - 1)) w) then some (.bool false, []) else f3 L (wor1 L w l) l) else none) else f3 L (wor1 L w l) l) = (some (.bool true, []) : R) := by
    by_cases h5 : 0 < wor2 L w l
    · rw [iltT h5, wrapI (x := wor2 L w l - 1) (by omega) (by omega), hp (y := wor2 L w l - 1) (by omega) (by omega), ileF (show ¬ wor1 L w l ≤ winZ l (wor2 L w l - 1) w by have := (g4 (wor2 L w l - 1) (by omega)).2 (by omega); omega)]
      exact h3'
    · rw [iltF h5]; exact h3'
  by_cases h6 : x < wor2 L w l
  · rw [iltT h6]
    have : (winZ l x w == wor1 L w l) = false := by
      have := (g4 x (by omega)).2 h6
      rw [beq_eq_false_iff_ne]
      omega
    rw [this]
    simpa only [Bool.true_and, Bool.and_true, cond_true, cond_false] using hlast
  · rw [iltF h6]
    simpa only [Bool.true_and, Bool.and_true, cond_true, cond_false] using hlast
theorem ok : CtxOk Tryd.prog X := ctxOk tab (by
  intro p hp
  simp only [List.mem_cons, List.not_mem_nil, or_false] at hp
  rcases hp with rfl | rfl | rfl | rfl | rfl
  · exact awake.spOk
  · exact few.spOk
  · exact rvalid.spOk
  · exact worst.spOk
  · exact lwin.spOk)
theorem okM : MOk Tryd.prog X := fun g sp h => by cases h
theorem spec (l : List Df) (L : Int) (w : Int) (x : Int) : CallSpec Tryd.prog E 4 [(.lst .df l), (.int .i64 L), (.int .i64 w), (.int .i64 x)] (.bool (true)) [] :=
  runFn_sound ok okM Tryd.call4 Tryd.func4 (by kernel_rfl) (by kernel_rfl) (by kernel_rfl) (by show 4 ≤ 120; decide) (by decide) (by rfl) ((run l L w x).trans (f0_eq l L w x))
noncomputable def sp : Sp U El := fun args k => match args with
  | [.lst .df l, .int .i64 L, .int .i64 w, .int .i64 x] => k (.bool (true)) []
  | _ => none
theorem spOk : SpOk Tryd.prog E 4 sp where
  det := fun vs => by
    unfold sp
    split
    · exact ⟨some (_, _), fun _ => rfl⟩
    · exact ⟨none, fun _ => rfl⟩
  ok := fun vs k r h => by
    unfold sp at h
    split at h
    · exact ⟨_, _, spec _ _ _ _, h⟩
    · cases h
end lawWindow
end Go.Proofs.YtnhmhcobpbilhaaDoor
