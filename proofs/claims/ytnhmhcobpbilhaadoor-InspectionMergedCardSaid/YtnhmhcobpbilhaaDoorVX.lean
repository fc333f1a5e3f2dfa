/- The law InspectionWorse: its run. -/
import Derived.Test.YtnhmhcobpbilhaaDoorVT
import Derived.Test.YtnhmhcobpbilhaaDoorDL
import Derived.Test.YtnhmhcobpbilhaaDoorGC
namespace Go.Proofs.YtnhmhcobpbilhaaDoor
set_option linter.unusedSectionVars false
set_option linter.unusedSimpArgs false
set_option linter.unusedVariables false
set_option maxRecDepth 100000

theorem slt_trans : ∀ {a b c : List UInt8}, slt a b = true → slt b c = true → slt a c = true := by
  intro a
  induction a with
  | nil =>
    intro b c h1 h2
    cases b with
    | nil => cases h1
    | cons y b =>
      cases c with
      | nil => cases h2
      | cons z c => rfl
  | cons x a ih =>
    intro b c h1 h2
    cases b with
    | nil => cases h1
    | cons y b =>
      cases c with
      | nil => cases h2
      | cons z c =>
        simp only [slt, Op.bytesLess, Bool.or_eq_true, Bool.and_eq_true, decide_eq_true_eq, beq_iff_eq] at h1 h2 ⊢
        rcases h1 with h1 | ⟨rfl, h1⟩
        · rcases h2 with h2 | ⟨rfl, h2⟩
          · exact .inl (UInt8.lt_trans h1 h2)
          · exact .inl h1
        · rcases h2 with h2 | ⟨rfl, h2⟩
          · exact .inl h2
          · exact .inr ⟨rfl, ih h1 h2⟩
theorem before_iff {d e : Df} : beforeB d e = true ↔ (d.a < e.a ∨ (d.a = e.a ∧ (slt d.c e.c = true ∨ (d.c = e.c ∧ (d.l < e.l ∨ (d.l = e.l ∧ d.s < e.s)))))) := by
  unfold beforeB
  by_cases h1 : d.a = e.a
  · have e1 : (d.a != e.a) = false := by simp [h1]
    rw [e1]
    simp only [cond_false]
    by_cases h2 : d.c = e.c
    · have e2 : (!(d.c == e.c)) = false := by simp [h2]
      rw [e2]
      simp only [cond_false]
      have hs : slt d.c e.c = false := by rw [h2]; exact slt_irrefl _
      by_cases h3 : d.l = e.l
      · have e3 : (d.l != e.l) = false := by simp [h3]
        rw [e3]
        simp only [cond_false, ilt, decide_eq_true_eq]
        simp only [h1, h2, h3, slt_irrefl]
        simp
      · have e3 : (d.l != e.l) = true := by simp [h3]
        rw [e3]
        simp only [cond_true, ilt, decide_eq_true_eq]
        simp only [h1, h2, slt_irrefl]
        simp [h3]
    · have e2 : (!(d.c == e.c)) = true := by simp [h2]
      rw [e2]
      simp only [cond_true]
      simp [h1, h2]
  · have e1 : (d.a != e.a) = true := by simp [h1]
    rw [e1]
    simp only [cond_true, ilt, decide_eq_true_eq]
    simp [h1]
theorem before_trans {x y z : Df} (h1 : beforeB x y = true) (h2 : beforeB y z = true) : beforeB x z = true := by
  rw [before_iff] at h1 h2 ⊢
  rcases h1 with h1 | ⟨e1, h1⟩
  · rcases h2 with h2 | ⟨e2, h2⟩
    · exact .inl (by omega)
    · exact .inl (by omega)
  · rcases h2 with h2 | ⟨e2, h2⟩
    · exact .inl (by omega)
    · refine .inr ⟨by omega, ?_⟩
      rcases h1 with h1 | ⟨c1, h1⟩
      · rcases h2 with h2 | ⟨c2, h2⟩
        · exact .inl (slt_trans h1 h2)
        · exact .inl (c2 ▸ h1)
      · rcases h2 with h2 | ⟨c2, h2⟩
        · exact .inl (c1 ▸ h2)
        · refine .inr ⟨c1.trans c2, ?_⟩
          omega

noncomputable def cutL (i : Nat) (l : List Df) : List Df := List.take i l ++ List.drop (i + 1) l
theorem cutL_zero (d : Df) (l : List Df) : cutL 0 (d :: l) = l := by simp [cutL]
theorem cutL_succ (i : Nat) (d : Df) (l : List Df) : cutL (i + 1) (d :: l) = d :: cutL i l := by simp [cutL]
theorem chain_cut {L : Int} : ∀ {l : List Df} {i : Nat} {p : Option Df}, chainB L p l = true → i < l.length → chainB L p (cutL i l) = true := by
  intro l
  induction l with
  | nil => intro i p _ h; simp at h
  | cons d l ih =>
    intro i p h hi
    simp only [chainB, Bool.and_eq_true] at h
    cases i with
    | zero =>
      rw [cutL_zero]
      cases l with
      | nil => rfl
      | cons e l =>
        have h3 := h.2.2
        simp only [chainB, Bool.and_eq_true] at h3 ⊢
        refine ⟨h3.1, ?_, h3.2.2⟩
        cases p with
        | none => rfl
        | some q => exact before_trans h.2.1 h3.2.1
    | succ i =>
      rw [cutL_succ]
      simp only [chainB, Bool.and_eq_true]
      exact ⟨h.1, h.2.1, ih h.2.2 (by simpa using hi)⟩
theorem valid_cut {L : Int} {l : List Df} {i : Nat} (h : validB L l = true) (hi : i < l.length) : validB L (cutL i l) = true := by
  have hl := valid_len h
  simp only [validB, Bool.and_eq_true] at h ⊢
  exact ⟨h.1, nleT (by simp [cutL]; omega), chain_cut h.2.2 hi⟩
theorem tot_cut : ∀ {l : List Df} {i : Nat} (hi : i < l.length), totZ (cutL i l) + oneZ l[i] = totZ l := by
  intro l
  induction l with
  | nil => intro i hi; simp at hi
  | cons d l ih =>
    intro i hi
    cases i with
    | zero => rw [cutL_zero]; simp only [totZ, List.getElem_cons_zero]; omega
    | succ i =>
      rw [cutL_succ]
      have := ih (i := i) (by simpa using hi)
      simp only [totZ, List.getElem_cons_succ]
      omega
theorem worst_mono : ∀ {l : List Df} {v w : Int}, v ≤ w → worstZ v l ≤ worstZ w l := by
  intro l
  induction l with
  | nil => intro v w h; exact h
  | cons d l ih =>
    intro v w h
    simp only [worstZ]
    refine ih ?_
    cases h1 : ilt v (weightZ d) <;> cases h2 : ilt w (weightZ d) <;> simp only [cond_true, cond_false]
    · exact h
    · have := iltN h1; have := iltI h2; omega
    · have := iltN h2; have := iltI h1; omega
    · exact Int.le_refl _
theorem worst_cut : ∀ {l : List Df} {i : Nat} {v w : Int}, v ≤ w → worstZ v (cutL i l) ≤ worstZ w l := by
  intro l
  induction l with
  | nil => intro i v w h; simpa [cutL, worstZ] using h
  | cons d l ih =>
    intro i v w h
    cases i with
    | zero =>
      rw [cutL_zero]
      simp only [worstZ]
      refine worst_mono ?_
      cases h2 : ilt w (weightZ d) <;> simp only [cond_true, cond_false]
      · exact h
      · have := iltI h2; omega
    | succ i =>
      rw [cutL_succ]
      simp only [worstZ]
      refine ih ?_
      cases h1 : ilt v (weightZ d) <;> cases h2 : ilt w (weightZ d) <;> simp only [cond_true, cond_false]
      · exact h
      · have := iltN h1; have := iltI h2; omega
      · have := iltN h2; have := iltI h1; omega
      · exact Int.le_refl _
theorem worst_set : ∀ {l : List Df} {i : Nat} (hi : i < l.length) {e : Df} {v w : Int}, v ≤ w → weightZ l[i] ≤ weightZ e → worstZ v l ≤ worstZ w (l.set i e) := by
  intro l
  induction l with
  | nil => intro i hi; simp at hi
  | cons d l ih =>
    intro i hi e v w h hw
    cases i with
    | zero =>
      simp only [List.getElem_cons_zero] at hw
      simp only [List.set_cons_zero, worstZ]
      refine worst_mono ?_
      cases h1 : ilt v (weightZ d) <;> cases h2 : ilt w (weightZ e) <;> simp only [cond_true, cond_false]
      · exact h
      · have := iltI h2; omega
      · have := iltN h2; have := iltI h1; omega
      · exact hw
    | succ i =>
      simp only [List.getElem_cons_succ] at hw
      simp only [List.set_cons_succ, worstZ]
      refine ih (by simpa using hi) ?_ hw
      cases h1 : ilt v (weightZ d) <;> cases h2 : ilt w (weightZ d) <;> simp only [cond_true, cond_false]
      · exact h
      · have := iltN h1; have := iltI h2; omega
      · have := iltN h2; have := iltI h1; omega
      · exact Int.le_refl _
theorem tot_set : ∀ {l : List Df} {i : Nat} (hi : i < l.length) {e : Df}, totZ (l.set i e) + oneZ l[i] = totZ l + oneZ e := by
  intro l
  induction l with
  | nil => intro i hi; simp at hi
  | cons d l ih =>
    intro i hi e
    cases i with
    | zero => simp only [List.set_cons_zero, totZ, List.getElem_cons_zero]; omega
    | succ i =>
      have := ih (i := i) (by simpa using hi) (e := e)
      simp only [List.set_cons_succ, totZ, List.getElem_cons_succ]
      omega
theorem step4_mono {n m : Int} (h : n ≤ m) (a b c d : Int) : stepZ n [a, b, c, d] ≤ stepZ m [a, b, c, d] := by
  simp only [stepZ, stp, ile, Bool.cond_decide]
  repeat' split
  all_goals omega
theorem rgrade_mono {L : Int} {l m : List Df} (hL : 1 ≤ L) (h0 : 0 ≤ totZ l) (ht : totZ l ≤ totZ m) (hw : worstZ 0 l ≤ worstZ 0 m) : rgradeZ L l ≤ rgradeZ L m := by
  have h1 : Int.tdiv (1000 * totZ l) L ≤ Int.tdiv (1000 * totZ m) L := by
    rw [Int.tdiv_eq_ediv_of_nonneg (by omega), Int.tdiv_eq_ediv_of_nonneg (by omega)]
    exact Int.ediv_le_ediv (by omega) (by omega)
  have h2 := step4_mono h1 5 20 50 100
  have h3 := step4_mono hw 10 40 80 160
  unfold rgradeZ
  cases h4 : ilt (stepZ (worstZ 0 l) [10, 40, 80, 160]) (stepZ (Int.tdiv (1000 * totZ l) L) [5, 20, 50, 100]) <;> cases h5 : ilt (stepZ (worstZ 0 m) [10, 40, 80, 160]) (stepZ (Int.tdiv (1000 * totZ m) L) [5, 20, 50, 100]) <;> simp only [cond_true, cond_false]
  · exact h3
  · have := iltI h5; omega
  · have := iltN h5; omega
  · exact h2
theorem okV_at' {L : Int} {l : List Df} (h : validB L l = true) {i : Nat} (hi : i < l.length) : ilt 0 (pointsZ l[i].c) = true := by
  have : ∀ {r : List Df} {p : Option Df}, chainB L p r = true → ∀ d ∈ r, ilt 0 (pointsZ d.c) = true := by
    intro r
    induction r with
    | nil => intro p _ d hd; cases hd
    | cons e r ih =>
      intro p h d hd
      simp only [chainB, Bool.and_eq_true] at h
      rcases List.mem_cons.1 hd with rfl | hd
      · have := h.1; simp only [rightB, Bool.and_eq_true] at this; exact this.1
      · exact ih h.2.2 d hd
  simp only [validB, Bool.and_eq_true] at h
  exact this h.2.2 _ (List.getElem_mem hi)
theorem one_pos {d : Df} (h : okD d = true) (hp : ilt 0 (pointsZ d.c) = true) : 1 ≤ oneZ d := by
  have h1 := parts_bound h
  have hp := iltI hp
  obtain ⟨_, _, h2, h3⟩ := okD_iff.1 h
  have h4 : 1 ≤ weightZ d := by
    unfold weightZ
    have : d.s = 1 ∨ d.s = 2 ∨ d.s = 3 ∨ d.s = 4 ∨ d.s = 5 := by omega
    rcases this with e | e | e | e | e <;> rw [e] <;> simp <;> omega
  unfold oneZ
  have := Int.mul_le_mul h4 h1.1 (by omega) (by omega)
  omega
noncomputable def upD (d : Df) : Df := ⟨d.c, d.a, d.l, d.s + 1⟩
theorem weight_up {d : Df} (h : okD d = true) : weightZ (upD d) = 2 * weightZ d := by
  obtain ⟨_, _, h2, h3⟩ := okD_iff.1 h
  unfold weightZ upD
  have : d.s = 1 ∨ d.s = 2 ∨ d.s = 3 ∨ d.s = 4 ∨ d.s = 5 := by omega
  rcases this with e | e | e | e | e <;> rw [e] <;> simp <;> omega
theorem one_up {d : Df} (h : okD d = true) : oneZ (upD d) = oneZ d + oneZ d := by
  have e : partsZ (upD d) = partsZ d := rfl
  unfold oneZ
  rw [weight_up h, e, Int.mul_assoc]
  omega

namespace lawWorse
noncomputable def bd : Code := (Tryd.f6.body).getD .skip
noncomputable def X : Ctx U El := ⟨E, tds, zeros, eqs, specOf [(10, awake.sp), (11, few.sp), (12, score.sp), (13, gradeF.sp), (21, valid.sp), (23, cloneA.sp)], 100000, 161, mspecOf [(22, delSp)]⟩
noncomputable def nmR : Norm U := ⟨[], [6], [], [], [], []⟩
noncomputable def RR : Kont U El := fun st => normK nmR st (retFin [6] [])
noncomputable def nm1 : Norm U := ⟨[], [0, 1, 2], [], [], [], []⟩
noncomputable def nm2 : Norm U := ⟨[], [0, 1, 7, 8, 10, 17], [], [], [], []⟩
noncomputable def fr0 (l : List Df) (L : Int) (kv : Int) : St U El := ⟨[(0, (.lst .df l)), (1, (.int .i64 L)), (2, (.int .u8 kv))], []⟩
noncomputable def fr1 (l0 : List Df) (length1 : Int) (kv2 : Int) : St U El := ⟨[(0, (.lst .df l0)), (1, (.int .i64 length1)), (2, (.int .u8 kv2))], []⟩
noncomputable def fr2 (l0 : List Df) (length1 : Int) (i7 : Int) (s8 : Int) (g10 : Int) (one17 : Int) : St U El := ⟨[(0, (.lst .df l0)), (1, (.int .i64 length1)), (7, (.int .i64 i7)), (8, (.int .i64 s8)), (10, (.int .i64 g10)), (17, (.int .i64 one17))], []⟩
noncomputable def sh0 (l : List Df) (L : Int) (kv : Int) (k1 : (List Df) → Int → Int → R) : R :=
  condB (!(true)) (some ((.bool false), [])) (condB (!(fewB l)) (some ((.bool true), [])) (condB ((Int.ofNat (List.length l)) == (0 : Int)) (some ((.bool true), [])) (condB (!(validB L l)) (some ((.bool true), [])) (k1 l L kv))))
noncomputable def sh1 (l0 : List Df) (length1 : Int) (kv2 : Int) (k2 : (List Df) → Int → Int → Int → Int → Int → R) : R :=
  chk ((Int.ofNat (List.length l0)) != 0) (chk (nle (List.length l0) 1005) (chk (ile 0 (Int.tmod (IntKind.wrap .i64 kv2) (Int.ofNat (List.length l0))) && (ilt (Int.tmod (IntKind.wrap .i64 kv2) (Int.ofNat (List.length l0))) (IntKind.wrap .i64 ((Int.tmod (IntKind.wrap .i64 kv2) (Int.ofNat (List.length l0))) + (1 : Int))) && (ile (IntKind.wrap .i64 ((Int.tmod (IntKind.wrap .i64 kv2) (Int.ofNat (List.length l0))) + (1 : Int))) (Int.ofNat (List.length (l0))) && (nle (List.length (l0)) 1000000 && true)))) (chk (ile 0 (Int.tmod (IntKind.wrap .i64 kv2) (Int.ofNat (List.length l0))) && ile (Int.tmod (IntKind.wrap .i64 kv2) (Int.ofNat (List.length l0))) (IntKind.wrap .i64 ((Int.tmod (IntKind.wrap .i64 kv2) (Int.ofNat (List.length l0))) + (1 : Int))) && ile (IntKind.wrap .i64 ((Int.tmod (IntKind.wrap .i64 kv2) (Int.ofNat (List.length l0))) + (1 : Int))) (Int.ofNat (List.length l0))) (condB ((scoreE length1 l0) != (0 : Int)) (some ((.bool false), [])) (condB ((scoreE length1 l0) != (0 : Int)) (some ((.bool false), [])) (condB ((scoreE length1 (List.take (Int.toNat (Int.tmod (IntKind.wrap .i64 kv2) (Int.ofNat (List.length l0)))) (l0) ++ List.drop (Int.toNat (IntKind.wrap .i64 ((Int.tmod (IntKind.wrap .i64 kv2) (Int.ofNat (List.length l0))) + (1 : Int)))) (l0))) != (0 : Int)) (some ((.bool false), [])) (condB ((scoreE length1 (List.take (Int.toNat (Int.tmod (IntKind.wrap .i64 kv2) (Int.ofNat (List.length l0)))) (l0) ++ List.drop (Int.toNat (IntKind.wrap .i64 ((Int.tmod (IntKind.wrap .i64 kv2) (Int.ofNat (List.length l0))) + (1 : Int)))) (l0))) != (0 : Int)) (some ((.bool false), [])) (condB ((scoreE length1 (sub l0 (Int.tmod (IntKind.wrap .i64 kv2) (Int.ofNat (List.length l0))) (IntKind.wrap .i64 ((Int.tmod (IntKind.wrap .i64 kv2) (Int.ofNat (List.length l0))) + (1 : Int))))) != (0 : Int)) (some ((.bool false), [])) (condB ((IntKind.wrap .i64 ((scoreZ length1 (List.take (Int.toNat (Int.tmod (IntKind.wrap .i64 kv2) (Int.ofNat (List.length l0)))) (l0) ++ List.drop (Int.toNat (IntKind.wrap .i64 ((Int.tmod (IntKind.wrap .i64 kv2) (Int.ofNat (List.length l0))) + (1 : Int)))) (l0))) + (scoreZ length1 (sub l0 (Int.tmod (IntKind.wrap .i64 kv2) (Int.ofNat (List.length l0))) (IntKind.wrap .i64 ((Int.tmod (IntKind.wrap .i64 kv2) (Int.ofNat (List.length l0))) + (1 : Int))))))) != (scoreZ length1 l0)) (some ((.bool false), [])) (condB (ilt (scoreZ length1 (sub l0 (Int.tmod (IntKind.wrap .i64 kv2) (Int.ofNat (List.length l0))) (IntKind.wrap .i64 ((Int.tmod (IntKind.wrap .i64 kv2) (Int.ofNat (List.length l0))) + (1 : Int))))) (1 : Int)) (some ((.bool false), [])) (condB (ilt (gradeF length1 l0) (gradeF length1 (List.take (Int.toNat (Int.tmod (IntKind.wrap .i64 kv2) (Int.ofNat (List.length l0)))) (l0) ++ List.drop (Int.toNat (IntKind.wrap .i64 ((Int.tmod (IntKind.wrap .i64 kv2) (Int.ofNat (List.length l0))) + (1 : Int)))) (l0)))) (some ((.bool false), [])) (k2 l0 length1 (Int.tmod (IntKind.wrap .i64 kv2) (Int.ofNat (List.length l0))) (scoreZ length1 l0) (gradeF length1 l0) (scoreZ length1 (sub l0 (Int.tmod (IntKind.wrap .i64 kv2) (Int.ofNat (List.length l0))) (IntKind.wrap .i64 ((Int.tmod (IntKind.wrap .i64 kv2) (Int.ofNat (List.length l0))) + (1 : Int)))))))))))))))))
noncomputable def sh2 (l0 : List Df) (length1 : Int) (i7 : Int) (s8 : Int) (g10 : Int) (one17 : Int) : R :=
  chk (nle (List.length l0) 1005) (chk (inb i7 (List.length (l0))) (chk (nlt (Int.toNat i7) (List.length (l0))) (chk (inb i7 (List.length (l0))) (chk (nlt (Int.toNat i7) (List.length (l0)) && true) (condB ((scoreE length1 (List.set (l0) (Int.toNat i7) (⟨(List.getD (l0) (Int.toNat i7) d_df).c, (List.getD (l0) (Int.toNat i7) d_df).a, (List.getD (l0) (Int.toNat i7) d_df).l, (IntKind.wrap .i64 ((List.getD (l0) (Int.toNat i7) d_df).s + (1 : Int)))⟩ : Df))) != (0 : Int)) (condB ((scoreE length1 (List.set (l0) (Int.toNat i7) (⟨(List.getD (l0) (Int.toNat i7) d_df).c, (List.getD (l0) (Int.toNat i7) d_df).a, (List.getD (l0) (Int.toNat i7) d_df).l, (IntKind.wrap .i64 ((List.getD (l0) (Int.toNat i7) d_df).s + (1 : Int)))⟩ : Df))) == (1 : Int)) (some ((.bool ((scoreE length1 (List.set (l0) (Int.toNat i7) (⟨(List.getD (l0) (Int.toNat i7) d_df).c, (List.getD (l0) (Int.toNat i7) d_df).a, (List.getD (l0) (Int.toNat i7) d_df).l, (IntKind.wrap .i64 ((List.getD (l0) (Int.toNat i7) d_df).s + (1 : Int)))⟩ : Df))) == (1 : Int))), [])) (some ((.bool false), []))) (condB ((scoreE length1 (List.set (l0) (Int.toNat i7) (⟨(List.getD (l0) (Int.toNat i7) d_df).c, (List.getD (l0) (Int.toNat i7) d_df).a, (List.getD (l0) (Int.toNat i7) d_df).l, (IntKind.wrap .i64 ((List.getD (l0) (Int.toNat i7) d_df).s + (1 : Int)))⟩ : Df))) == (0 : Int)) (condB ((scoreZ length1 (List.set (l0) (Int.toNat i7) (⟨(List.getD (l0) (Int.toNat i7) d_df).c, (List.getD (l0) (Int.toNat i7) d_df).a, (List.getD (l0) (Int.toNat i7) d_df).l, (IntKind.wrap .i64 ((List.getD (l0) (Int.toNat i7) d_df).s + (1 : Int)))⟩ : Df))) == (IntKind.wrap .i64 (s8 + one17))) (some ((.bool (ile g10 (gradeF length1 (List.set (l0) (Int.toNat i7) (⟨(List.getD (l0) (Int.toNat i7) d_df).c, (List.getD (l0) (Int.toNat i7) d_df).a, (List.getD (l0) (Int.toNat i7) d_df).l, (IntKind.wrap .i64 ((List.getD (l0) (Int.toNat i7) d_df).s + (1 : Int)))⟩ : Df))))), [])) (some ((.bool false), []))) (some ((.bool false), []))))))))
noncomputable def ct1 : Kont U El := fun st => exec X (cdp [1, 1, 1] bd) (.seq none .d (.seq none .d (.seq none .d (.seq none .d (.seq none .d (.seq none .d (.seq none .d (.seq (some nm2) .d .d)))))))) st RR (fun _ _ => none) RR
noncomputable def ct2 : Kont U El := fun st => exec X (cdp [1, 1, 1, 1, 1, 1, 1, 1, 1, 1, 1] bd) .d st RR (fun _ _ => none) RR
theorem P0 (l : List Df) (L : Int) (kv : Int) : exec X (cdp [] bd) (.seq none .d (.seq none .d (.seq (some nm1) .d (.seq none .d (.seq none .d (.seq none .d (.seq none .d (.seq none .d (.seq none .d (.seq none .d (.seq (some nm2) .d .d))))))))))) (fr0 l L kv) RR (fun _ _ => none) RR = sh0 l L kv (fun y0 y1 y2 => (hid ct1) (fr1 y0 y1 y2)) := by kernel_rfl
theorem P1 (l0 : List Df) (length1 : Int) (kv2 : Int) : exec X (cdp [1, 1, 1] bd) (.seq none .d (.seq none .d (.seq none .d (.seq none .d (.seq none .d (.seq none .d (.seq none .d (.seq (some nm2) .d .d)))))))) (fr1 l0 length1 kv2) RR (fun _ _ => none) RR = sh1 l0 length1 kv2 (fun y0 y1 y2 y3 y4 y5 => (hid ct2) (fr2 y0 y1 y2 y3 y4 y5)) := by kernel_rfl
theorem P2 (l0 : List Df) (length1 : Int) (i7 : Int) (s8 : Int) (g10 : Int) (one17 : Int) : exec X (cdp [1, 1, 1, 1, 1, 1, 1, 1, 1, 1, 1] bd) .d (fr2 l0 length1 i7 s8 g10 one17) RR (fun _ _ => none) RR = sh2 l0 length1 i7 s8 g10 one17 := by kernel_rfl
noncomputable def f2 (l0 : List Df) (length1 : Int) (i7 : Int) (s8 : Int) (g10 : Int) (one17 : Int) : R := sh2 l0 length1 i7 s8 g10 one17
noncomputable def f1 (l0 : List Df) (length1 : Int) (kv2 : Int) : R := sh1 l0 length1 kv2 f2
noncomputable def f0 (l : List Df) (L : Int) (kv : Int) : R := sh0 l L kv f1
theorem T2 (l0 : List Df) (length1 : Int) (i7 : Int) (s8 : Int) (g10 : Int) (one17 : Int) : (hid ct2) (fr2 l0 length1 i7 s8 g10 one17) = f2 l0 length1 i7 s8 g10 one17 := by
  refine (congrFun (hid_eq _) _).trans <| (P2 l0 length1 i7 s8 g10 one17).trans ?_
  show _ = sh2 l0 length1 i7 s8 g10 one17
  rfl
theorem T1 (l0 : List Df) (length1 : Int) (kv2 : Int) : (hid ct1) (fr1 l0 length1 kv2) = f1 l0 length1 kv2 := by
  refine (congrFun (hid_eq _) _).trans <| (P1 l0 length1 kv2).trans ?_
  show _ = sh1 l0 length1 kv2 f2
  simp only [T2]
theorem T0 (l : List Df) (L : Int) (kv : Int) : exec X bd (.seq none .d (.seq none .d (.seq (some nm1) .d (.seq none .d (.seq none .d (.seq none .d (.seq none .d (.seq none .d (.seq none .d (.seq none .d (.seq (some nm2) .d .d))))))))))) (fr0 l L kv) RR (fun _ _ => none) RR = f0 l L kv := by
  refine (P0 l L kv).trans ?_
  show _ = sh0 l L kv f1
  simp only [T1]
theorem run (l : List Df) (L : Int) (kv : Int) : runFn X bd (.seq none .d (.seq none .d (.seq (some nm1) .d (.seq none .d (.seq none .d (.seq none .d (.seq none .d (.seq none .d (.seq none .d (.seq none .d (.seq (some nm2) .d .d))))))))))) nmR [6] [] [(.lst .df l), (.int .i64 L), (.int .u8 kv)] = f0 l L kv := T0 l L kv
theorem second (l : List Df) (L : Int) (hv : validB L l = true) (i : Nat) (hi : i < l.length) : f2 l L (i : Int) (scoreZ L l) (gradeF L l) (oneZ l[i]) = some (.bool true, []) := by
  obtain ⟨hok, hL⟩ := valid_okL hv
  have hL' := pos16_iff.1 hL
  have hl := valid_len hv
  have hd := okL_at hok hi
  have hd' := okD_iff.1 hd
  unfold f2 sh2
  rw [nleT (show l.length ≤ 1005 by omega), inbT hi, toNat_nat, nltT hi, getD_lt hi, wrapI (x := l[i].s + 1) (by omega) (by omega)]
  show (bif (scoreE L (l.set i (upD l[i])) != 0) then _ else _) = _
  cases hm : validB L (l.set i (upD l[i]))
  · have e1 : scoreE L (l.set i (upD l[i])) = 1 := by unfold scoreE; rw [hm]; rfl
    show (bif (scoreE L (l.set i (upD l[i])) != 0) then condB (scoreE L (l.set i (upD l[i])) == 1) (some (AV.bool (scoreE L (l.set i (upD l[i])) == 1), [])) (some (AV.bool false, [])) else _) = _
    rw [e1]
    rfl
  · have e1 : scoreE L (l.set i (upD l[i])) = 0 := by unfold scoreE; rw [hm]; rfl
    have e2 : scoreZ L (l.set i (upD l[i])) = totZ (l.set i (upD l[i])) := by unfold scoreZ; rw [hm]; rfl
    have e3 : scoreZ L l = totZ l := by unfold scoreZ; rw [hv]; rfl
    have e4 : gradeF L (l.set i (upD l[i])) = rgradeZ L (l.set i (upD l[i])) := by unfold gradeF; rw [hm]; rfl
    have e5 : gradeF L l = rgradeZ L l := by unfold gradeF; rw [hv]; rfl
    have ht := tot_set hi (e := upD l[i])
    rw [one_up hd] at ht
    have hob := one_bound hd
    have htb := tot_bound (l := l) (by simp only [okL, Bool.and_eq_true] at hok; exact hok.2)
    have hwu := weight_up hd
    have hwb := weight_bound hd
    have hg := rgrade_mono (l := l) (m := l.set i (upD l[i])) hL'.1 htb.1 (by omega) (worst_set hi (Int.le_refl 0) (by omega))
    show (bif (scoreE L (l.set i (upD l[i])) != 0) then _ else condB (scoreE L (l.set i (upD l[i])) == 0) (condB (scoreZ L (l.set i (upD l[i])) == IntKind.wrap .i64 (scoreZ L l + oneZ l[i])) (some (AV.bool (ile (gradeF L l) (gradeF L (l.set i (upD l[i])))), [])) (some (AV.bool false, []))) (some (AV.bool false, []))) = _
    rw [e1, e2, e3, e4, e5, wrapI (x := totZ l + oneZ l[i]) (by omega) (by omega), show totZ (l.set i (upD l[i])) = totZ l + oneZ l[i] by omega, ileT hg]
    simp [condB]
theorem f0_eq (l : List Df) (L k : Int) (h : (ile 0 k && ile k 255) = true) : f0 l L k = some (.bool true, []) := by
  simp only [Bool.and_eq_true] at h
  have hk0 := ileI h.1
  have hk1 := ileI h.2
  unfold f0 sh0
  simp only [Bool.not_true, condB, cond_false]
  cases fewB l
  · rfl
  simp only [Bool.not_true, cond_false]
  by_cases h0 : l.length = 0
  · rw [h0]; rfl
  rw [show ((Int.ofNat l.length) == (0 : Int)) = false from beq_eq_false_iff_ne.2 (fun h => h0 (Int.ofNat.inj h))]
  simp only [cond_false]
  cases hv : validB L l
  · rfl
  simp only [Bool.not_true, cond_false]
  obtain ⟨hok, hL⟩ := valid_okL hv
  have hL' := pos16_iff.1 hL
  have hl := valid_len hv
  have hidx : Int.tmod (IntKind.wrap .i64 k) (Int.ofNat l.length) = ((k.toNat % l.length : Nat) : Int) := by
    rw [wrapI (x := k) (by omega) (by omega)]
    obtain ⟨n, rfl⟩ := Int.eq_ofNat_of_zero_le hk0
    rfl
  have hi : k.toNat % l.length < l.length := Nat.mod_lt _ (by omega)
  generalize hg : k.toNat % l.length = i at hidx hi
  show f1 l L k = _
  unfold f1 sh1
  rw [hidx, wrapS i (by omega)]
  have hd := okL_at hok hi
  have hob := one_bound hd
  have hcut : List.take (Int.toNat (i : Int)) l ++ List.drop (Int.toNat ((i + 1 : Nat) : Int)) l = cutL i l := rfl
  have hsub : sub l (i : Int) ((i + 1 : Nat) : Int) = [l[i]] := by
    unfold sub
    rw [toNat_nat, toNat_nat, drop_lt hi, show i + 1 - i = 1 by omega]
    rfl
  have hvc := valid_cut hv hi
  have hvo : validB L [l[i]] = true := by
    have hr : rightB L l[i] = true := by
      have : ∀ {r : List Df} {p : Option Df}, chainB L p r = true → ∀ d ∈ r, rightB L d = true := by
        intro r
        induction r with
        | nil => intro p _ d hd; cases hd
        | cons e r ih =>
          intro p h d hd
          simp only [chainB, Bool.and_eq_true] at h
          rcases List.mem_cons.1 hd with rfl | hd
          · exact h.1
          · exact ih h.2.2 d hd
      simp only [validB, Bool.and_eq_true] at hv
      exact this hv.2.2 _ (List.getElem_mem hi)
    simp only [validB, Bool.and_eq_true]
    refine ⟨hL, rfl, ?_⟩
    show (rightB L l[i] && (true && true)) = true
    rw [hr]; rfl
  have e1 : scoreE L l = 0 := by unfold scoreE; rw [hv]; rfl
  have e2 : scoreE L (cutL i l) = 0 := by unfold scoreE; rw [hvc]; rfl
  have e3 : scoreE L [l[i]] = 0 := by unfold scoreE; rw [hvo]; rfl
  have e4 : scoreZ L l = totZ l := by unfold scoreZ; rw [hv]; rfl
  have e5 : scoreZ L (cutL i l) = totZ (cutL i l) := by unfold scoreZ; rw [hvc]; rfl
  have e6 : scoreZ L [l[i]] = oneZ l[i] := by unfold scoreZ; rw [hvo]; show oneZ l[i] + 0 = _; omega
  have e7 : gradeF L l = rgradeZ L l := by unfold gradeF; rw [hv]; rfl
  have e8 : gradeF L (cutL i l) = rgradeZ L (cutL i l) := by unfold gradeF; rw [hvc]; rfl
  have htc := tot_cut hi
  have htb := tot_bound (l := l) (by simp only [okL, Bool.and_eq_true] at hok; exact hok.2)
  have htb2 := tot_bound (l := cutL i l) (by have := (valid_okL hvc).1; simp only [okL, Bool.and_eq_true] at this; exact this.2)
  have hpos := one_pos hd (okV_at' hv hi)
  have hgr := rgrade_mono (l := cutL i l) (m := l) hL'.1 htb2.1 (by omega) (worst_cut (Int.le_refl 0))
  rw [hcut, hsub, e1, e2, e3]
  rw [show (Int.ofNat l.length != 0) = true from bne_iff_ne.2 (fun h => h0 (Int.ofNat.inj h)), nleT (show l.length ≤ 1005 by omega), ileT (show (0 : Int) ≤ (i : Int) by omega), iltT (show (i : Int) < ((i + 1 : Nat) : Int) by omega), ileT (show ((i + 1 : Nat) : Int) ≤ Int.ofNat l.length by simp; omega), nleT (show l.length ≤ 1000000 by omega), ileT (show (i : Int) ≤ ((i + 1 : Nat) : Int) by omega)]
  simp only [chk, condB, Bool.and_self, cond_true, cond_false, bne_self_eq_false]
  rw [e5, e6, e4, wrapI (x := totZ (cutL i l) + oneZ l[i]) (by omega) (by omega), show totZ (cutL i l) + oneZ l[i] = totZ l from htc, bne_self_eq_false, iltF (show ¬ oneZ l[i] < 1 by omega), e7, e8, iltF (show ¬ rgradeZ L l < rgradeZ L (cutL i l) by omega)]
  simp only [cond_false]
  have := second l L hv i hi
  rw [e4, e7] at this
  exact this
theorem ok : CtxOk Tryd.prog X := ctxOk tab (by
  intro p hp
  simp only [List.mem_cons, List.not_mem_nil, or_false] at hp
  rcases hp with rfl | rfl | rfl | rfl | rfl | rfl
  · exact awake.spOk
  · exact few.spOk
  · exact score.spOk
  · exact gradeF.spOk
  · exact valid.spOk
  · exact cloneA.spOk)
theorem okM : MOk Tryd.prog X := mspecOf_ok _ (by
  intro p hp
  simp only [List.mem_cons, List.not_mem_nil, or_false] at hp
  rcases hp with rfl
  · exact delOk rfl ok)
theorem spec (l : List Df) (L : Int) (kv : Int) (h : ((ile 0 kv && ile kv 255)) = true) : CallSpec Tryd.prog E 6 [(.lst .df l), (.int .i64 L), (.int .u8 kv)] (.bool (true)) [] :=
  runFn_sound ok okM Tryd.call6 Tryd.func6 (by kernel_rfl) (by kernel_rfl) (by kernel_rfl) (by show 3 ≤ 161; decide) (by decide) (by rfl) ((run l L kv).trans (f0_eq l L kv h))
noncomputable def sp : Sp U El := fun args k => match args with
  | [.lst .df l, .int .i64 L, .int .u8 kv] => chk ((ile 0 kv && ile kv 255)) (k (.bool (true)) [])
  | _ => none
theorem spOk : SpOk Tryd.prog E 6 sp where
  det := fun vs => by
    unfold sp
    split
    · rename_i l L kv
      cases hb : ((ile 0 kv && ile kv 255))
      · exact ⟨none, fun _ => rfl⟩
      · exact ⟨some (_, _), fun _ => rfl⟩
    · exact ⟨none, fun _ => rfl⟩
  ok := fun vs k r h => by
    unfold sp at h
    split at h
    · obtain ⟨h1, h2⟩ := chk_some h
      exact ⟨_, _, spec _ _ _ h1, h2⟩
    · cases h
end lawWorse
end Go.Proofs.YtnhmhcobpbilhaaDoor
