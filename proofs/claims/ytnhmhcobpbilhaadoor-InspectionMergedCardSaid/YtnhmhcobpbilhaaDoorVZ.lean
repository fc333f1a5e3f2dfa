/- Sorted lists of defects: the code's sort and compact, and the document's insertion, give one list. The laws InspectionLists and InspectionMerged: their own runs come to true. -/
import Derived.Test.YtnhmhcobpbilhaaDoorVY
import Derived.Test.YtnhmhcobpbilhaaDoorVX
namespace Go.Proofs.YtnhmhcobpbilhaaDoor
set_option linter.unusedSectionVars false
set_option linter.unusedSimpArgs false
set_option linter.unusedVariables false
set_option maxRecDepth 100000

abbrev Asc (l : List Df) : Prop := l.Pairwise fun x y => beforeB x y = true
theorem asc_unique : ∀ {l m : List Df}, Asc l → Asc m → (∀ x, x ∈ l ↔ x ∈ m) → l = m := by
  intro l
  induction l with
  | nil =>
    intro m _ _ h
    cases m with
    | nil => rfl
    | cons y m => exact absurd ((h y).2 (by simp)) (by simp)
  | cons x l ih =>
    intro m hl hm h
    cases m with
    | nil => exact absurd ((h x).1 (by simp)) (by simp)
    | cons y m =>
      obtain ⟨h1, h2⟩ := List.pairwise_cons.1 hl
      obtain ⟨h3, h4⟩ := List.pairwise_cons.1 hm
      have hxy : x = y := by
        rcases List.mem_cons.1 ((h x).1 (by simp)) with e | hx
        · exact e
        · rcases List.mem_cons.1 ((h y).2 (by simp)) with e | hy
          · exact e.symm
          · have := before_trans (h3 x hx) (h1 y hy)
            rw [before_irrefl] at this; cases this
      subst hxy
      rw [ih h2 h4 fun z => ?_]
      constructor
      · intro hz
        rcases List.mem_cons.1 ((h z).1 (List.mem_cons_of_mem _ hz)) with e | h'
        · subst e; have := h1 z hz; rw [before_irrefl] at this; cases this
        · exact h'
      · intro hz
        rcases List.mem_cons.1 ((h z).2 (List.mem_cons_of_mem _ hz)) with e | h'
        · subst e; have := h3 z hz; rw [before_irrefl] at this; cases this
        · exact h'

theorem chain_asc {L : Int} : ∀ {l : List Df} {p : Option Df}, chainB L p l = true → Asc l ∧ ∀ q, p = some q → ∀ d ∈ l, beforeB q d = true := by
  intro l
  induction l with
  | nil => intro p _; exact ⟨List.Pairwise.nil, fun q _ d h => by cases h⟩
  | cons d l ih =>
    intro p h
    simp only [chainB, Bool.and_eq_true] at h
    obtain ⟨h1, h2⟩ := ih h.2.2
    refine ⟨List.pairwise_cons.2 ⟨fun e he => h2 d rfl e he, h1⟩, fun q hq e he => ?_⟩
    subst hq
    have hqd : beforeB q d = true := h.2.1
    rcases List.mem_cons.1 he with rfl | he
    · exact hqd
    · exact before_trans hqd (h2 d rfl e he)
theorem valid_asc {L : Int} {l : List Df} (h : validB L l = true) : Asc l := by
  simp only [validB, Bool.and_eq_true] at h
  exact (chain_asc h.2.2).1
theorem asc_chain {L : Int} : ∀ {l : List Df} {p : Option Df}, Asc l → (∀ d ∈ l, rightB L d = true) → (∀ q, p = some q → ∀ d ∈ l, beforeB q d = true) → chainB L p l = true := by
  intro l
  induction l with
  | nil => intro p _ _ _; rfl
  | cons d l ih =>
    intro p h hr hp
    obtain ⟨h1, h2⟩ := List.pairwise_cons.1 h
    simp only [chainB, Bool.and_eq_true]
    refine ⟨hr d (by simp), ?_, ih h2 (fun e he => hr e (by simp [he])) fun q hq e he => by cases hq; exact h1 e he⟩
    cases p with
    | none => rfl
    | some q => exact hp q rfl d (by simp)

theorem mem_putL {d x : Df} : ∀ {l : List Df}, x ∈ putL d l ↔ x = d ∨ x ∈ l := by
  intro l
  induction l with
  | nil => simp [putL]
  | cons y l ih =>
    simp only [putL]
    cases hb : beforeB y d
    · cases he : eqDf y d
      · simp
      · have := eqDf_iff.1 he
        subst this
        simp
    · simp only [cond_true, List.mem_cons, ih]
      constructor
      · rintro (h | h | h)
        · exact .inr (.inl h)
        · exact .inl h
        · exact .inr (.inr h)
      · rintro (h | h | h)
        · exact .inr (.inl h)
        · exact .inl h
        · exact .inr (.inr h)
theorem asc_putL {d : Df} : ∀ {l : List Df}, Asc l → Asc (putL d l) := by
  intro l
  induction l with
  | nil => intro _; simp [putL, Asc]
  | cons y l ih =>
    intro h
    obtain ⟨h1, h2⟩ := List.pairwise_cons.1 h
    simp only [putL]
    cases hb : beforeB y d
    · cases he : eqDf y d
      · have hdy : beforeB d y = true := by
          cases hc : beforeB d y
          · have := before_total hb hc
            rw [eqDf_iff.2 this] at he; cases he
          · rfl
        refine List.pairwise_cons.2 ⟨fun e hm => ?_, h⟩
        rcases List.mem_cons.1 hm with rfl | hm
        · exact hdy
        · exact before_trans hdy (h1 e hm)
      · exact h
    · refine List.pairwise_cons.2 ⟨fun e hm => ?_, ih h2⟩
      rcases mem_putL.1 hm with rfl | hm
      · exact hb
      · exact h1 e hm
theorem mem_putsL {x : Df} : ∀ {l out : List Df}, x ∈ putsL out l ↔ x ∈ out ∨ x ∈ l := by
  intro l
  induction l with
  | nil => intro out; simp [putsL]
  | cons d l ih =>
    intro out
    simp only [putsL, ih, mem_putL, List.mem_cons]
    constructor
    · rintro ((h | h) | h)
      · exact .inr (.inl h)
      · exact .inl h
      · exact .inr (.inr h)
    · rintro (h | h | h)
      · exact .inl (.inr h)
      · exact .inl (.inl h)
      · exact .inr h
theorem asc_putsL : ∀ {l out : List Df}, Asc out → Asc (putsL out l) := by
  intro l
  induction l with
  | nil => intro out h; exact h
  | cons d l ih => intro out h; exact ih (asc_putL h)

theorem sort_le (l : List Df) : (sortDf l).Pairwise fun x y => beforeB y x = false := by
  have := List.pairwise_mergeSort (le := fun x y => !beforeB y x) (fun a b c h1 h2 => ?_) (fun a b => ?_) l
  · exact this.imp fun h => by simpa using h
  · simp only [Bool.not_eq_true'] at h1 h2 ⊢
    cases h : beforeB c a
    · rfl
    · cases h3 : beforeB a b
      · have := before_total h1 h3
        subst this; rw [h2] at h; cases h
      · have := before_trans h h3
        rw [h2] at this; cases this
  · cases h : beforeB b a
    · rfl
    · cases h3 : beforeB a b
      · rfl
      · have := before_trans h h3
        rw [before_irrefl] at this; cases this
theorem mem_sort {l : List Df} {x : Df} : x ∈ sortDf l ↔ x ∈ l := (List.mergeSort_perm l _).mem_iff

theorem comp_spec : ∀ {l : List Df} {p : Df}, (l.Pairwise fun x y => beforeB y x = false) → (∀ d ∈ l, beforeB d p = false) → Asc (compA p l) ∧ (∀ d ∈ compA p l, beforeB p d = true) ∧ ∀ x, (x = p ∨ x ∈ compA p l) ↔ (x = p ∨ x ∈ l) := by
  intro l
  induction l with
  | nil => intro p _ _; exact ⟨List.Pairwise.nil, fun d h => (by cases h), fun x => Iff.rfl⟩
  | cons d l ih =>
    intro p h hp
    obtain ⟨h1, h2⟩ := List.pairwise_cons.1 h
    simp only [compA]
    cases he : eqDf d p
    · obtain ⟨g1, g2, g3⟩ := ih h2 h1
      have hpd : beforeB p d = true := by
        cases hc : beforeB p d
        · have := before_total (hp d (by simp)) hc
          rw [eqDf_iff.2 this] at he; cases he
        · rfl
      refine ⟨List.pairwise_cons.2 ⟨g2, g1⟩, fun e hm => ?_, fun x => ?_⟩
      · rcases List.mem_cons.1 hm with rfl | hm
        · exact hpd
        · exact before_trans hpd (g2 e hm)
      · have := g3 x
        simp only [cond_false, List.mem_cons] at this ⊢
        constructor
        · rintro (h | h)
          · exact .inl h
          · exact .inr (this.1 h)
        · rintro (h | h)
          · exact .inl h
          · exact .inr (this.2 h)
    · obtain rfl := eqDf_iff.1 he
      obtain ⟨g1, g2, g3⟩ := ih h2 h1
      refine ⟨g1, g2, fun x => ?_⟩
      have := g3 x
      simp only [cond_true, List.mem_cons]
      constructor
      · intro h
        rcases this.1 h with h | h
        · exact .inl h
        · exact .inr (.inr h)
      · rintro (h | h | h)
        · exact .inl h
        · exact .inl h
        · exact this.2 (.inr h)
theorem compact_spec {l : List Df} (h : l.Pairwise fun x y => beforeB y x = false) : Asc (compactL l) ∧ ∀ x, x ∈ compactL l ↔ x ∈ l := by
  cases l with
  | nil => exact ⟨List.Pairwise.nil, fun x => Iff.rfl⟩
  | cons d l =>
    obtain ⟨h1, h2⟩ := List.pairwise_cons.1 h
    obtain ⟨g1, g2, g3⟩ := comp_spec h2 h1
    refine ⟨List.pairwise_cons.2 ⟨g2, g1⟩, fun x => ?_⟩
    have := g3 x
    simp only [compactL, List.mem_cons]
    exact this

theorem merge_asc (a b : List Df) : Asc (mergeM a b) := (compact_spec (sort_le (a ++ b))).1
theorem mem_merge {a b : List Df} {x : Df} : x ∈ mergeM a b ↔ x ∈ a ∨ x ∈ b := by
  unfold mergeM
  rw [(compact_spec (sort_le (a ++ b))).2, mem_sort, List.mem_append]
theorem merge_eq {a b : List Df} (ha : Asc a) : mergeM a b = rmergeL a b :=
  asc_unique (merge_asc a b) (asc_putsL ha) fun x => by rw [mem_merge]; unfold rmergeL; rw [mem_putsL]
theorem turned_eq {L : Int} {l : List Df} (h : validB L l = true) : sortDf (l.map (turnD L)) = rturnedL L l := by
  have hnd : (sortDf (l.map (turnD L))).Nodup := by
    refine (List.mergeSort_perm _ _).nodup_iff.2 ?_
    refine List.pairwise_map.2 ((valid_asc h).imp fun {x y} hxy e => ?_)
    simp only [turnD, Df.mk.injEq] at e
    obtain ⟨e1, e2, e3, e4⟩ := e
    have ea : x.a = y.a := by rw [e3] at e2; omega
    have : x = y := by cases x; cases y; simp only at e1 e3 e4 ea; rw [e1, e3, e4, ea]
    rw [this, before_irrefl] at hxy; cases hxy
  have hasc : Asc (sortDf (l.map (turnD L))) := by
    refine List.Pairwise.imp₂ (fun x y h1 h2 => ?_) (sort_le _) hnd
    cases hc : beforeB x y
    · exact absurd (before_total hc h1) h2
    · rfl
  exact asc_unique hasc (asc_putsL List.Pairwise.nil) fun x => by
    rw [mem_sort]; unfold rturnedL; rw [mem_putsL]; simp

namespace lawLists
noncomputable def bd : Code := (Tryd.f9.body).getD .skip
noncomputable def X : Ctx U El := ⟨E, tds, zeros, eqs, specOf [(10, awake.sp), (11, few.sp), (14, rvalid.sp), (27, merge.sp), (28, equalD.sp), (29, turned.sp), (30, rturned.sp), (31, rmerge.sp)], 100000, 90, fun _ => none⟩
noncomputable def nmR : Norm U := ⟨[], [6], [], [], [], []⟩
noncomputable def RR : Kont U El := fun st => normK nmR st (retFin [6] [])
noncomputable def nm1 : Norm U := ⟨[], [0, 1, 2], [], [], [], []⟩
noncomputable def nm2 : Norm U := ⟨[(7, .df)], [0, 1, 7, 8], [7], [], [], []⟩
noncomputable def nm3 : Norm U := ⟨[(7, .df)], [0, 1, 7, 8], [7], [], [], []⟩
noncomputable def fr0 (a : List Df) (b : List Df) (L : Int) : St U El := ⟨[(0, (.lst .df a)), (1, (.lst .df b)), (2, (.int .i64 L))], []⟩
noncomputable def fr1 (a0 : List Df) (b1 : List Df) (length2 : Int) : St U El := ⟨[(0, (.lst .df a0)), (1, (.lst .df b1)), (2, (.int .i64 length2))], []⟩
noncomputable def fr2 (a0 : List Df) (b1 : List Df) (m7 : List Df) (e8 : Int) : St U El := ⟨[(0, (.lst .df a0)), (1, (.lst .df b1)), (7, (.ful 7)), (8, (.int .i64 e8))], [(7, (.rows .df m7))]⟩
noncomputable def fr3 (a0 : List Df) (b1 : List Df) (m7 : List Df) (e8 : Int) : St U El := ⟨[(0, (.lst .df a0)), (1, (.lst .df b1)), (7, (.ful 7)), (8, (.int .i64 e8))], [(7, (.rows .df m7))]⟩
noncomputable def sh0 (a : List Df) (b : List Df) (L : Int) (k1 : (List Df) → (List Df) → Int → R) : R :=
  condB (!(true)) (some ((.bool false), [])) (condB (!(fewB a)) (some ((.bool true), [])) (condB (!(fewB b)) (some ((.bool true), [])) (k1 a b L)))
noncomputable def sh1 (a0 : List Df) (b1 : List Df) (length2 : Int) (k2 : (List Df) → (List Df) → (List Df) → Int → R) : R :=
  condB (!(validB length2 a0)) (condB ((Int.ofNat (List.length (turnedL length2 a0))) != (0 : Int)) (some ((.bool false), [])) (condB ((turnedE length2 a0) != (1 : Int)) (some ((.bool false), [])) (k2 a0 b1 (mergeL a0 b1) (mergeE a0 b1)))) (chk (validB length2 a0) (chk (nle (List.length (turnedL length2 a0)) 4000) (condB (!(eqD (turnedL length2 a0) (rturnedL length2 a0))) (some ((.bool false), [])) (condB ((turnedE length2 a0) != (0 : Int)) (some ((.bool false), [])) (k2 a0 b1 (mergeL a0 b1) (mergeE a0 b1))))))
noncomputable def sh2 (a0 : List Df) (b1 : List Df) (m7 : List Df) (e8 : Int) (k3 : (List Df) → (List Df) → (List Df) → Int → R) : R :=
  condB (!(validB (16777216 : Int) a0)) (condB ((Int.ofNat (List.length m7)) == (0 : Int)) (some ((.bool (e8 == (1 : Int))), [])) (some ((.bool false), []))) (condB (!(validB (16777216 : Int) b1)) (condB ((Int.ofNat (List.length m7)) == (0 : Int)) (some ((.bool (e8 == (1 : Int))), [])) (some ((.bool false), []))) (k3 a0 b1 m7 e8))
noncomputable def sh3 (a0 : List Df) (b1 : List Df) (m7 : List Df) (e8 : Int) : R :=
  chk ((nle (List.length a0) 1005 && nle (List.length b1) 1005)) (condB (ilt (1000 : Int) (Int.ofNat (List.length (rmergeL a0 b1)))) (condB ((Int.ofNat (List.length m7)) == (0 : Int)) (some ((.bool (e8 == (4 : Int))), [])) (some ((.bool false), []))) (chk (nle (List.length m7) 4000) (condB (eqD m7 (rmergeL a0 b1)) (some ((.bool (e8 == (0 : Int))), [])) (some ((.bool false), [])))))
noncomputable def ct1 : Kont U El := fun st => exec X (cdp [1, 1, 1] bd) (.seq none .d (.seq none .d (.seq (some nm2) .d (.seq (some nm3) .d .d)))) st RR (fun _ _ => none) RR
noncomputable def ct2 : Kont U El := fun st => exec X (cdp [1, 1, 1, 1, 1, 1] bd) (.seq (some nm3) .d .d) st RR (fun _ _ => none) RR
noncomputable def ct3 : Kont U El := fun st => exec X (cdp [1, 1, 1, 1, 1, 1, 1] bd) .d st RR (fun _ _ => none) RR
theorem P0 (a : List Df) (b : List Df) (L : Int) : exec X (cdp [] bd) (.seq none .d (.seq none .d (.seq (some nm1) .d (.seq none .d (.seq none .d (.seq (some nm2) .d (.seq (some nm3) .d .d))))))) (fr0 a b L) RR (fun _ _ => none) RR = sh0 a b L (fun y0 y1 y2 => (hid ct1) (fr1 y0 y1 y2)) := by kernel_rfl
theorem P1 (a0 : List Df) (b1 : List Df) (length2 : Int) : exec X (cdp [1, 1, 1] bd) (.seq none .d (.seq none .d (.seq (some nm2) .d (.seq (some nm3) .d .d)))) (fr1 a0 b1 length2) RR (fun _ _ => none) RR = sh1 a0 b1 length2 (fun y0 y1 y2 y3 => (hid ct2) (fr2 y0 y1 y2 y3)) := by kernel_rfl
theorem P2 (a0 : List Df) (b1 : List Df) (m7 : List Df) (e8 : Int) : exec X (cdp [1, 1, 1, 1, 1, 1] bd) (.seq (some nm3) .d .d) (fr2 a0 b1 m7 e8) RR (fun _ _ => none) RR = sh2 a0 b1 m7 e8 (fun y0 y1 y2 y3 => (hid ct3) (fr3 y0 y1 y2 y3)) := by kernel_rfl
theorem P3 (a0 : List Df) (b1 : List Df) (m7 : List Df) (e8 : Int) : exec X (cdp [1, 1, 1, 1, 1, 1, 1] bd) .d (fr3 a0 b1 m7 e8) RR (fun _ _ => none) RR = sh3 a0 b1 m7 e8 := by kernel_rfl
noncomputable def f3 (a0 : List Df) (b1 : List Df) (m7 : List Df) (e8 : Int) : R := sh3 a0 b1 m7 e8
noncomputable def f2 (a0 : List Df) (b1 : List Df) (m7 : List Df) (e8 : Int) : R := sh2 a0 b1 m7 e8 f3
noncomputable def f1 (a0 : List Df) (b1 : List Df) (length2 : Int) : R := sh1 a0 b1 length2 f2
noncomputable def f0 (a : List Df) (b : List Df) (L : Int) : R := sh0 a b L f1
theorem T3 (a0 : List Df) (b1 : List Df) (m7 : List Df) (e8 : Int) : (hid ct3) (fr3 a0 b1 m7 e8) = f3 a0 b1 m7 e8 := by
  refine (congrFun (hid_eq _) _).trans <| (P3 a0 b1 m7 e8).trans ?_
  show _ = sh3 a0 b1 m7 e8
  rfl
theorem T2 (a0 : List Df) (b1 : List Df) (m7 : List Df) (e8 : Int) : (hid ct2) (fr2 a0 b1 m7 e8) = f2 a0 b1 m7 e8 := by
  refine (congrFun (hid_eq _) _).trans <| (P2 a0 b1 m7 e8).trans ?_
  show _ = sh2 a0 b1 m7 e8 f3
  simp only [T3]
theorem T1 (a0 : List Df) (b1 : List Df) (length2 : Int) : (hid ct1) (fr1 a0 b1 length2) = f1 a0 b1 length2 := by
  refine (congrFun (hid_eq _) _).trans <| (P1 a0 b1 length2).trans ?_
  show _ = sh1 a0 b1 length2 f2
  simp only [T2]
theorem T0 (a : List Df) (b : List Df) (L : Int) : exec X bd (.seq none .d (.seq none .d (.seq (some nm1) .d (.seq none .d (.seq none .d (.seq (some nm2) .d (.seq (some nm3) .d .d))))))) (fr0 a b L) RR (fun _ _ => none) RR = f0 a b L := by
  refine (P0 a b L).trans ?_
  show _ = sh0 a b L f1
  simp only [T1]
theorem run (a : List Df) (b : List Df) (L : Int) : runFn X bd (.seq none .d (.seq none .d (.seq (some nm1) .d (.seq none .d (.seq none .d (.seq (some nm2) .d (.seq (some nm3) .d .d))))))) nmR [6] [] [(.lst .df a), (.lst .df b), (.int .i64 L)] = f0 a b L := T0 a b L
theorem k2_true (a b : List Df) : f2 a b (mergeL a b) (mergeE a b) = some (.bool true, []) := by
  show sh2 a b (mergeL a b) (mergeE a b) f3 = _
  unfold sh2
  cases ha : validB 16777216 a
  · have e1 : mergeL a b = [] := by unfold mergeL; rw [ha]; rfl
    have e2 : mergeE a b = 1 := by unfold mergeE; rw [ha]; rfl
    rw [e1, e2]; rfl
  cases hb : validB 16777216 b
  · have e1 : mergeL a b = [] := by unfold mergeL; rw [ha, hb]; rfl
    have e2 : mergeE a b = 1 := by unfold mergeE; rw [ha, hb]; rfl
    rw [e1, e2]; rfl
  show sh3 a b (mergeL a b) (mergeE a b) = _
  have la := valid_len ha
  have lb := valid_len hb
  unfold sh3
  rw [nleT (show a.length ≤ 1005 by omega), nleT (show b.length ≤ 1005 by omega)]
  have hm := merge_eq (b := b) (valid_asc ha)
  cases hc : ilt (1000 : Int) (Int.ofNat (rmergeL a b).length)
  · have e1 : mergeL a b = rmergeL a b := by unfold mergeL; rw [ha, hb, hm, hc]; rfl
    have e2 : mergeE a b = 0 := by unfold mergeE; rw [ha, hb, hm, hc]; rfl
    have hl := iltN hc
    simp only [Int.ofNat_eq_natCast] at hl
    rw [e1, e2, nleT (show (rmergeL a b).length ≤ 4000 by omega), eqD_same]
    rfl
  · have e1 : mergeL a b = [] := by unfold mergeL; rw [ha, hb, hm, hc]; rfl
    have e2 : mergeE a b = 4 := by unfold mergeE; rw [ha, hb, hm, hc]; rfl
    rw [e1, e2]; rfl
theorem f0_eq (a b : List Df) (L : Int) : f0 a b L = some (.bool true, []) := by
  show sh0 a b L f1 = _
  unfold sh0
  cases fewB a
  · rfl
  cases fewB b
  · rfl
  show sh1 a b L f2 = _
  unfold sh1
  cases hv : validB L a
  · have e1 : turnedL L a = [] := by unfold turnedL; rw [hv]; rfl
    have e2 : turnedE L a = 1 := by unfold turnedE; rw [hv]; rfl
    rw [e1, e2]
    exact k2_true a b
  · have e1 : turnedL L a = rturnedL L a := by unfold turnedL; rw [hv]; exact turned_eq hv
    have e2 : turnedE L a = 0 := by unfold turnedE; rw [hv]; rfl
    have hl : (rturnedL L a).length = a.length := by
      rw [← turned_eq hv, sortDf_len, List.length_map]
    have la := valid_len hv
    rw [e1, e2, nleT (show (rturnedL L a).length ≤ 4000 by omega), eqD_same]
    exact k2_true a b
theorem ok : CtxOk Tryd.prog X := ctxOk tab (by
  intro p hp
  simp only [List.mem_cons, List.not_mem_nil, or_false] at hp
  rcases hp with rfl | rfl | rfl | rfl | rfl | rfl | rfl | rfl
  · exact awake.spOk
  · exact few.spOk
  · exact rvalid.spOk
  · exact merge.spOk
  · exact equalD.spOk
  · exact turned.spOk
  · exact rturned.spOk
  · exact rmerge.spOk)
theorem okM : MOk Tryd.prog X := fun g sp h => by cases h
theorem spec (a : List Df) (b : List Df) (L : Int) : CallSpec Tryd.prog E 9 [(.lst .df a), (.lst .df b), (.int .i64 L)] (.bool (true)) [] :=
  runFn_sound ok okM Tryd.call9 Tryd.func9 (by kernel_rfl) (by kernel_rfl) (by kernel_rfl) (by show 3 ≤ 90; decide) (by decide) (by rfl) ((run a b L).trans (f0_eq a b L))
noncomputable def sp : Sp U El := fun args k => match args with
  | [.lst .df a, .lst .df b, .int .i64 L] => k (.bool (true)) []
  | _ => none
theorem spOk : SpOk Tryd.prog E 9 sp where
  det := fun vs => by
    unfold sp
    split
    · exact ⟨some (_, _), fun _ => rfl⟩
    · exact ⟨none, fun _ => rfl⟩
  ok := fun vs k r h => by
    unfold sp at h
    split at h
    · exact ⟨_, _, spec _ _ _, h⟩
    · cases h
end lawLists

/-! ### the scores of a merged inspection -/
theorem right_up {L : Int} (hL : L ≤ 16777216) {d : Df} (h : rightB L d = true) : rightB 16777216 d = true := by
  simp only [rightB, Bool.and_eq_true, ile, decide_eq_true_eq] at h ⊢
  exact ⟨h.1, h.2.1, by omega, h.2.2.2.1, by omega, h.2.2.2.2.2⟩
theorem right_mem {L : Int} {l : List Df} (h : validB L l = true) : ∀ d ∈ l, rightB L d = true := fun d hd => by
  obtain ⟨i, hi, rfl⟩ := List.getElem_of_mem hd
  exact right_at h hi
theorem valid_mk {L : Int} {l : List Df} (hL : pos16 L = true) (hl : l.length ≤ 1000) (ha : Asc l) (hr : ∀ d ∈ l, rightB L d = true) : validB L l = true := by
  simp only [validB, Bool.and_eq_true]
  exact ⟨hL, nleT hl, asc_chain ha hr fun q hq => by cases hq⟩
theorem valid_up {L : Int} {l : List Df} (h : validB L l = true) : validB 16777216 l = true :=
  valid_mk rfl (valid_len h) (valid_asc h) fun d hd => right_up (pos16_iff.1 (valid_okL h).2).2 (right_mem h d hd)
theorem tot_put {d : Df} (h : 0 ≤ oneZ d) : ∀ {l : List Df}, totZ l ≤ totZ (putL d l) ∧ totZ (putL d l) ≤ totZ l + oneZ d := by
  intro l
  induction l with
  | nil => simp only [putL, totZ]; omega
  | cons y l ih =>
    simp only [putL]
    cases beforeB y d
    · cases eqDf y d
      · simp only [cond_false, totZ]; omega
      · simp only [cond_false, cond_true, totZ]; omega
    · simp only [cond_true, totZ]; omega
theorem tot_puts : ∀ {l out : List Df}, (∀ d ∈ l, okD d = true) → totZ out ≤ totZ (putsL out l) ∧ totZ (putsL out l) ≤ totZ out + totZ l := by
  intro l
  induction l with
  | nil => intro out _; simp only [putsL, totZ]; omega
  | cons d l ih =>
    intro out h
    have h1 := tot_put (one_bound (h d (by simp))).1 (l := out)
    have h2 := ih (out := putL d out) (fun e he => h e (by simp [he]))
    simp only [putsL, totZ]
    omega
theorem worst_put {d : Df} : ∀ {l : List Df} {v w : Int}, v ≤ w → worstZ v l ≤ worstZ w (putL d l) := by
  intro l
  induction l with
  | nil =>
    intro v w h
    simp only [putL, worstZ]
    cases h2 : ilt w (weightZ d) <;> simp only [cond_true, cond_false]
    · exact h
    · have := iltI h2; omega
  | cons y l ih =>
    intro v w h
    simp only [putL]
    cases beforeB y d
    · cases eqDf y d
      · have hw : w ≤ (bif ilt w (weightZ d) then weightZ d else w) := by
          cases h2 : ilt w (weightZ d) <;> simp only [cond_true, cond_false]
          · exact Int.le_refl _
          · have := iltI h2; omega
        exact worst_mono (l := y :: l) (Int.le_trans h hw)
      · exact worst_mono (l := y :: l) h
    · simp only [cond_true, worstZ]
      refine ih ?_
      cases h1 : ilt v (weightZ y) <;> cases h2 : ilt w (weightZ y) <;> simp only [cond_true, cond_false]
      · exact h
      · have := iltN h1; have := iltI h2; omega
      · have := iltN h2; have := iltI h1; omega
      · exact Int.le_refl _
theorem worst_puts : ∀ {l out : List Df}, worstZ 0 out ≤ worstZ 0 (putsL out l) := by
  intro l
  induction l with
  | nil => intro out; exact Int.le_refl _
  | cons d l ih => intro out; exact Int.le_trans (worst_put (Int.le_refl 0)) ih

namespace lawMerged
noncomputable def bd : Code := (Tryd.f8.body).getD .skip
noncomputable def X : Ctx U El := ⟨E, tds, zeros, eqs, specOf [(10, awake.sp), (11, few.sp), (12, score.sp), (13, gradeF.sp), (21, valid.sp), (27, merge.sp), (28, equalD.sp)], 100000, 161, fun _ => none⟩
noncomputable def nmR : Norm U := ⟨[], [6], [], [], [], []⟩
noncomputable def RR : Kont U El := fun st => normK nmR st (retFin [6] [])
noncomputable def nm1 : Norm U := ⟨[], [0, 1, 2], [], [], [], []⟩
noncomputable def nm2 : Norm U := ⟨[(7, .df), (9, .df)], [0, 1, 2, 7, 9], [7, 9], [], [], []⟩
noncomputable def nm3 : Norm U := ⟨[(7, .df)], [0, 1, 2, 7], [7], [], [], []⟩
noncomputable def nm4 : Norm U := ⟨[], [13, 14, 15, 16, 18], [], [], [], []⟩
noncomputable def fr0 (a : List Df) (b : List Df) (L : Int) : St U El := ⟨[(0, (.lst .df a)), (1, (.lst .df b)), (2, (.int .i64 L))], []⟩
noncomputable def fr1 (a0 : List Df) (b1 : List Df) (length2 : Int) : St U El := ⟨[(0, (.lst .df a0)), (1, (.lst .df b1)), (2, (.int .i64 length2))], []⟩
noncomputable def fr2 (a0 : List Df) (b1 : List Df) (length2 : Int) (m7 : List Df) (n9 : List Df) : St U El := ⟨[(0, (.lst .df a0)), (1, (.lst .df b1)), (2, (.int .i64 length2)), (7, (.ful 7)), (9, (.ful 9))], [(7, (.rows .df m7)), (9, (.rows .df n9))]⟩
noncomputable def fr3 (a0 : List Df) (b1 : List Df) (length2 : Int) (m7 : List Df) : St U El := ⟨[(0, (.lst .df a0)), (1, (.lst .df b1)), (2, (.int .i64 length2)), (7, (.ful 7))], [(7, (.rows .df m7))]⟩
noncomputable def fr4 (x13 : Int) (y14 : Int) (z15 : Int) (u16 : Int) (w18 : Int) : St U El := ⟨[(13, (.int .i64 x13)), (14, (.int .i64 y14)), (15, (.int .i64 z15)), (16, (.int .i64 u16)), (18, (.int .i64 w18))], []⟩
noncomputable def sh0 (a : List Df) (b : List Df) (L : Int) (k1 : (List Df) → (List Df) → Int → R) : R :=
  condB (!(true)) (some ((.bool false), [])) (condB (!(fewB a)) (some ((.bool true), [])) (condB (!(fewB b)) (some ((.bool true), [])) (condB (!(validB L a)) (some ((.bool true), [])) (condB (!(validB L b)) (some ((.bool true), [])) (k1 a b L)))))
noncomputable def sh1 (a0 : List Df) (b1 : List Df) (length2 : Int) (k2 : (List Df) → (List Df) → Int → (List Df) → (List Df) → R) : R :=
  condB ((mergeE a0 b1) != (0 : Int)) (condB ((mergeE a0 b1) == (mergeE b1 a0)) (some ((.bool ((mergeE a0 b1) == (4 : Int))), [])) (some ((.bool false), []))) (condB ((mergeE b1 a0) != (0 : Int)) (condB ((mergeE a0 b1) == (mergeE b1 a0)) (some ((.bool ((mergeE a0 b1) == (4 : Int))), [])) (some ((.bool false), []))) (k2 a0 b1 length2 (mergeL a0 b1) (mergeL b1 a0)))
noncomputable def sh2 (a0 : List Df) (b1 : List Df) (length2 : Int) (m7 : List Df) (n9 : List Df) (k3 : (List Df) → (List Df) → Int → (List Df) → R) : R :=
  chk (nle (List.length m7) 4000) (condB (!(eqD m7 n9)) (some ((.bool false), [])) (condB ((mergeE a0 a0) != (0 : Int)) (some ((.bool false), [])) (chk (nle (List.length (mergeL a0 a0)) 4000) (condB (!(eqD (mergeL a0 a0) a0)) (some ((.bool false), [])) (condB (!(validB length2 m7)) (some ((.bool false), [])) (k3 a0 b1 length2 m7))))))
noncomputable def sh3 (a0 : List Df) (b1 : List Df) (length2 : Int) (m7 : List Df) (k4 : Int → Int → Int → Int → Int → R) : R :=
  condB ((scoreE length2 a0) != (0 : Int)) (some ((.bool false), [])) (condB ((scoreE length2 b1) != (0 : Int)) (some ((.bool false), [])) (condB ((scoreE length2 m7) != (0 : Int)) (some ((.bool false), [])) (condB ((scoreE length2 a0) != (0 : Int)) (some ((.bool false), [])) (condB ((scoreE length2 m7) != (0 : Int)) (some ((.bool false), [])) (k4 (scoreZ length2 a0) (scoreZ length2 b1) (scoreZ length2 m7) (gradeF length2 a0) (gradeF length2 m7))))))
noncomputable def sh4 (x13 : Int) (y14 : Int) (z15 : Int) (u16 : Int) (w18 : Int) : R :=
  condB (ile z15 (IntKind.wrap .i64 (x13 + y14))) (condB (ile x13 z15) (condB (ile y14 z15) (some ((.bool (ile u16 w18)), [])) (some ((.bool false), []))) (some ((.bool false), []))) (some ((.bool false), []))
noncomputable def ct1 : Kont U El := fun st => exec X (cdp [1, 1, 1] bd) (.seq none .d (.seq none .d (.seq (some nm2) .d (.seq none .d (.seq (some nm3) .d (.seq none .d (.seq none .d (.seq none .d (.seq none .d (.seq none .d (.seq (some nm4) .d .d))))))))))) st RR (fun _ _ => none) RR
noncomputable def ct2 : Kont U El := fun st => exec X (cdp [1, 1, 1, 1, 1, 1] bd) (.seq none .d (.seq (some nm3) .d (.seq none .d (.seq none .d (.seq none .d (.seq none .d (.seq none .d (.seq (some nm4) .d .d)))))))) st RR (fun _ _ => none) RR
noncomputable def ct3 : Kont U El := fun st => exec X (cdp [1, 1, 1, 1, 1, 1, 1, 1] bd) (.seq none .d (.seq none .d (.seq none .d (.seq none .d (.seq none .d (.seq (some nm4) .d .d)))))) st RR (fun _ _ => none) RR
noncomputable def ct4 : Kont U El := fun st => exec X (cdp [1, 1, 1, 1, 1, 1, 1, 1, 1, 1, 1, 1, 1, 1] bd) .d st RR (fun _ _ => none) RR
theorem P0 (a : List Df) (b : List Df) (L : Int) : exec X (cdp [] bd) (.seq none .d (.seq none .d (.seq (some nm1) .d (.seq none .d (.seq none .d (.seq (some nm2) .d (.seq none .d (.seq (some nm3) .d (.seq none .d (.seq none .d (.seq none .d (.seq none .d (.seq none .d (.seq (some nm4) .d .d)))))))))))))) (fr0 a b L) RR (fun _ _ => none) RR = sh0 a b L (fun y0 y1 y2 => (hid ct1) (fr1 y0 y1 y2)) := by kernel_rfl
theorem P1 (a0 : List Df) (b1 : List Df) (length2 : Int) : exec X (cdp [1, 1, 1] bd) (.seq none .d (.seq none .d (.seq (some nm2) .d (.seq none .d (.seq (some nm3) .d (.seq none .d (.seq none .d (.seq none .d (.seq none .d (.seq none .d (.seq (some nm4) .d .d))))))))))) (fr1 a0 b1 length2) RR (fun _ _ => none) RR = sh1 a0 b1 length2 (fun y0 y1 y2 y3 y4 => (hid ct2) (fr2 y0 y1 y2 y3 y4)) := by kernel_rfl
theorem P2 (a0 : List Df) (b1 : List Df) (length2 : Int) (m7 : List Df) (n9 : List Df) : exec X (cdp [1, 1, 1, 1, 1, 1] bd) (.seq none .d (.seq (some nm3) .d (.seq none .d (.seq none .d (.seq none .d (.seq none .d (.seq none .d (.seq (some nm4) .d .d)))))))) (fr2 a0 b1 length2 m7 n9) RR (fun _ _ => none) RR = sh2 a0 b1 length2 m7 n9 (fun y0 y1 y2 y3 => (hid ct3) (fr3 y0 y1 y2 y3)) := by kernel_rfl
theorem P3 (a0 : List Df) (b1 : List Df) (length2 : Int) (m7 : List Df) : exec X (cdp [1, 1, 1, 1, 1, 1, 1, 1] bd) (.seq none .d (.seq none .d (.seq none .d (.seq none .d (.seq none .d (.seq (some nm4) .d .d)))))) (fr3 a0 b1 length2 m7) RR (fun _ _ => none) RR = sh3 a0 b1 length2 m7 (fun y0 y1 y2 y3 y4 => (hid ct4) (fr4 y0 y1 y2 y3 y4)) := by kernel_rfl
theorem P4 (x13 : Int) (y14 : Int) (z15 : Int) (u16 : Int) (w18 : Int) : exec X (cdp [1, 1, 1, 1, 1, 1, 1, 1, 1, 1, 1, 1, 1, 1] bd) .d (fr4 x13 y14 z15 u16 w18) RR (fun _ _ => none) RR = sh4 x13 y14 z15 u16 w18 := by kernel_rfl
noncomputable def f4 (x13 : Int) (y14 : Int) (z15 : Int) (u16 : Int) (w18 : Int) : R := sh4 x13 y14 z15 u16 w18
noncomputable def f3 (a0 : List Df) (b1 : List Df) (length2 : Int) (m7 : List Df) : R := sh3 a0 b1 length2 m7 f4
noncomputable def f2 (a0 : List Df) (b1 : List Df) (length2 : Int) (m7 : List Df) (n9 : List Df) : R := sh2 a0 b1 length2 m7 n9 f3
noncomputable def f1 (a0 : List Df) (b1 : List Df) (length2 : Int) : R := sh1 a0 b1 length2 f2
noncomputable def f0 (a : List Df) (b : List Df) (L : Int) : R := sh0 a b L f1
theorem T4 (x13 : Int) (y14 : Int) (z15 : Int) (u16 : Int) (w18 : Int) : (hid ct4) (fr4 x13 y14 z15 u16 w18) = f4 x13 y14 z15 u16 w18 := by
  refine (congrFun (hid_eq _) _).trans <| (P4 x13 y14 z15 u16 w18).trans ?_
  show _ = sh4 x13 y14 z15 u16 w18
  rfl
theorem T3 (a0 : List Df) (b1 : List Df) (length2 : Int) (m7 : List Df) : (hid ct3) (fr3 a0 b1 length2 m7) = f3 a0 b1 length2 m7 := by
  refine (congrFun (hid_eq _) _).trans <| (P3 a0 b1 length2 m7).trans ?_
  show _ = sh3 a0 b1 length2 m7 f4
  simp only [T4]
theorem T2 (a0 : List Df) (b1 : List Df) (length2 : Int) (m7 : List Df) (n9 : List Df) : (hid ct2) (fr2 a0 b1 length2 m7 n9) = f2 a0 b1 length2 m7 n9 := by
  refine (congrFun (hid_eq _) _).trans <| (P2 a0 b1 length2 m7 n9).trans ?_
  show _ = sh2 a0 b1 length2 m7 n9 f3
  simp only [T3]
theorem T1 (a0 : List Df) (b1 : List Df) (length2 : Int) : (hid ct1) (fr1 a0 b1 length2) = f1 a0 b1 length2 := by
  refine (congrFun (hid_eq _) _).trans <| (P1 a0 b1 length2).trans ?_
  show _ = sh1 a0 b1 length2 f2
  simp only [T2]
theorem T0 (a : List Df) (b : List Df) (L : Int) : exec X bd (.seq none .d (.seq none .d (.seq (some nm1) .d (.seq none .d (.seq none .d (.seq (some nm2) .d (.seq none .d (.seq (some nm3) .d (.seq none .d (.seq none .d (.seq none .d (.seq none .d (.seq none .d (.seq (some nm4) .d .d)))))))))))))) (fr0 a b L) RR (fun _ _ => none) RR = f0 a b L := by
  refine (P0 a b L).trans ?_
  show _ = sh0 a b L f1
  simp only [T1]
theorem run (a : List Df) (b : List Df) (L : Int) : runFn X bd (.seq none .d (.seq none .d (.seq (some nm1) .d (.seq none .d (.seq none .d (.seq (some nm2) .d (.seq none .d (.seq (some nm3) .d (.seq none .d (.seq none .d (.seq none .d (.seq none .d (.seq none .d (.seq (some nm4) .d .d)))))))))))))) nmR [6] [] [(.lst .df a), (.lst .df b), (.int .i64 L)] = f0 a b L := T0 a b L
theorem f0_eq (a b : List Df) (L : Int) : f0 a b L = some (.bool true, []) := by
  show sh0 a b L f1 = _
  unfold sh0
  cases fewB a
  · rfl
  cases fewB b
  · rfl
  cases hva : validB L a
  · rfl
  cases hvb : validB L b
  · rfl
  show sh1 a b L f2 = _
  have hua := valid_up hva
  have hub := valid_up hvb
  have la := valid_len hva
  have lb := valid_len hvb
  have hcomm : mergeM a b = mergeM b a := asc_unique (merge_asc a b) (merge_asc b a) fun x => by rw [mem_merge, mem_merge, or_comm]
  have hE : mergeE b a = mergeE a b := by unfold mergeE; rw [hua, hub, hcomm]
  have hLc : mergeL b a = mergeL a b := by unfold mergeL; rw [hua, hub, hcomm]
  unfold sh1
  rw [hE, hLc]
  cases hc : ilt (1000 : Int) (Int.ofNat (mergeM a b).length)
  case true =>
    have e2 : mergeE a b = 4 := by unfold mergeE; rw [hua, hub, hc]; rfl
    rw [e2]; rfl
  have e1 : mergeL a b = mergeM a b := by unfold mergeL; rw [hua, hub, hc]; rfl
  have e2 : mergeE a b = 0 := by unfold mergeE; rw [hua, hub, hc]; rfl
  have hl := iltN hc
  simp only [Int.ofNat_eq_natCast] at hl
  rw [e1, e2]
  show sh2 a b L (mergeM a b) (mergeM a b) f3 = _
  have haa : mergeM a a = a := asc_unique (merge_asc a a) (valid_asc hva) fun x => by rw [mem_merge, or_self]
  have hca : ilt (1000 : Int) (Int.ofNat a.length) = false := iltF (by simp; omega)
  have e3 : mergeL a a = a := by unfold mergeL; rw [hua, haa, hca]; rfl
  have e4 : mergeE a a = 0 := by unfold mergeE; rw [hua, haa, hca]; rfl
  have hM : validB L (mergeM a b) = true := valid_mk (valid_okL hva).2 (by omega) (merge_asc a b) fun d hd => by
    rcases mem_merge.1 hd with h | h
    · exact right_mem hva d h
    · exact right_mem hvb d h
  unfold sh2
  rw [nleT (show (mergeM a b).length ≤ 4000 by omega), eqD_same, e3, e4, nleT (show a.length ≤ 4000 by omega), eqD_same, hM]
  show sh3 a b L (mergeM a b) f4 = _
  have s1 : scoreE L a = 0 := by unfold scoreE; rw [hva]; rfl
  have s2 : scoreE L b = 0 := by unfold scoreE; rw [hvb]; rfl
  have s3 : scoreE L (mergeM a b) = 0 := by unfold scoreE; rw [hM]; rfl
  have z1 : scoreZ L a = totZ a := by unfold scoreZ; rw [hva]; rfl
  have z2 : scoreZ L b = totZ b := by unfold scoreZ; rw [hvb]; rfl
  have z3 : scoreZ L (mergeM a b) = totZ (mergeM a b) := by unfold scoreZ; rw [hM]; rfl
  have g1 : gradeF L a = rgradeZ L a := by unfold gradeF; rw [hva]; rfl
  have g2 : gradeF L (mergeM a b) = rgradeZ L (mergeM a b) := by unfold gradeF; rw [hM]; rfl
  unfold sh3
  rw [s1, s2, s3, z1, z2, z3, g1, g2]
  show sh4 (totZ a) (totZ b) (totZ (mergeM a b)) (rgradeZ L a) (rgradeZ L (mergeM a b)) = _
  have okm : ∀ {l : List Df}, validB L l = true → ∀ d ∈ l, okD d = true := fun h d hd => right_ok (valid_okL h).2 (right_mem h d hd)
  have t1 := tot_puts (out := a) (okm hvb)
  have t2 := tot_puts (out := b) (okm hva)
  have m1 : mergeM a b = putsL a b := merge_eq (valid_asc hva)
  have m2 : mergeM a b = putsL b a := hcomm.trans (merge_eq (valid_asc hvb))
  rw [← m1] at t1
  rw [← m2] at t2
  have ba := tot_bound (l := a) (List.all_eq_true.2 (okm hva))
  have bb := tot_bound (l := b) (List.all_eq_true.2 (okm hvb))
  have hw : worstZ 0 a ≤ worstZ 0 (mergeM a b) := by rw [m1]; exact worst_puts
  have hg := rgrade_mono (l := a) (m := mergeM a b) (pos16_iff.1 (valid_okL hva).2).1 ba.1 t1.1 hw
  unfold sh4
  rw [wrapI (x := totZ a + totZ b) (by omega) (by omega), ileT (show totZ (mergeM a b) ≤ totZ a + totZ b by omega), ileT (show totZ a ≤ totZ (mergeM a b) by omega), ileT (show totZ b ≤ totZ (mergeM a b) by omega), ileT hg]
  rfl
theorem ok : CtxOk Tryd.prog X := ctxOk tab (by
  intro p hp
  simp only [List.mem_cons, List.not_mem_nil, or_false] at hp
  rcases hp with rfl | rfl | rfl | rfl | rfl | rfl | rfl
  · exact awake.spOk
  · exact few.spOk
  · exact score.spOk
  · exact gradeF.spOk
  · exact valid.spOk
  · exact merge.spOk
  · exact equalD.spOk)
theorem okM : MOk Tryd.prog X := fun g sp h => by cases h
theorem spec (a : List Df) (b : List Df) (L : Int) : CallSpec Tryd.prog E 8 [(.lst .df a), (.lst .df b), (.int .i64 L)] (.bool (true)) [] :=
  runFn_sound ok okM Tryd.call8 Tryd.func8 (by kernel_rfl) (by kernel_rfl) (by kernel_rfl) (by show 3 ≤ 161; decide) (by decide) (by rfl) ((run a b L).trans (f0_eq a b L))
noncomputable def sp : Sp U El := fun args k => match args with
  | [.lst .df a, .lst .df b, .int .i64 L] => k (.bool (true)) []
  | _ => none
theorem spOk : SpOk Tryd.prog E 8 sp where
  det := fun vs => by
    unfold sp
    split
    · exact ⟨some (_, _), fun _ => rfl⟩
    · exact ⟨none, fun _ => rfl⟩
  ok := fun vs k r h => by
    unfold sp at h
    split at h
    · exact ⟨_, _, spec _ _ _, h⟩
    · cases h
end lawMerged
end Go.Proofs.YtnhmhcobpbilhaaDoor
