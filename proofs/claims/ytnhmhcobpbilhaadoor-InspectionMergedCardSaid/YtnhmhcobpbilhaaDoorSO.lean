/- slices.SortFunc over defects, by the order of compare: the kit's shelf laid at this program (its numbers by the shelf's own tool), and the contract of the lift. -/
import Derived.Test.YtnhmhcobpbilhaaDoorVC
import Derived.Test.YtnhmhcobpbilhaaDoorLS
import Derived.Shelf.SlLaysF0
namespace Go.Proofs.YtnhmhcobpbilhaaDoor
set_option linter.unusedSectionVars false
set_option linter.unusedSimpArgs false
set_option linter.unusedVariables false
open Go.Shelf Go.Sort
def sortDfLay_ren : Go.Shelf.Ren := ⟨fun | 6 => 49 | 15 => 63 | 14 => 62 | 28 => 76 | 29 => 77 | 20 => 68 | 21 => 69 | 22 => 70 | 23 => 71 | 24 => 72 | 25 => 73 | 26 => 74 | 27 => 75 | 46 => 80 | 47 => 81 | 48 => 82 | 49 => 83 | 50 => 84 | 57 => 89 | n => n, fun | 22 => 22 | 24 => 34 | 25 => 68 | 3 => 3 | 39 => 91 | 0 => 0 | 53 => 105 | 55 => 107 | 4 => 4 | 46 => 98 | 45 => 97 | 50 => 102 | 5 => 5 | 9 => 9 | 66 => 111 | 70 => 115 | 76 => 121 | 77 => 47 | n => n, fun | n => n⟩
theorem sortDfLay : Go.Proofs.SlLaysF0.n6 Tryd.prog sortDfLay_ren := {
  mixed := by kernel_rfl
  f6 := ⟨Tryd.f49.name, by decide, Tryd.func49.trans (congrArg some (by kernel_rfl))⟩
  f14 := ⟨Tryd.f62.name, by decide, Tryd.func62.trans (congrArg some (by kernel_rfl))⟩
  f15 := Tryd.func63.trans (congrArg some (by kernel_rfl))
  f20 := ⟨Tryd.f68.name, by decide, Tryd.func68.trans (congrArg some (by kernel_rfl))⟩
  f21 := ⟨Tryd.f69.name, by decide, Tryd.func69.trans (congrArg some (by kernel_rfl))⟩
  f22 := ⟨Tryd.f70.name, by decide, Tryd.func70.trans (congrArg some (by kernel_rfl))⟩
  f23 := ⟨Tryd.f71.name, by decide, Tryd.func71.trans (congrArg some (by kernel_rfl))⟩
  f24 := ⟨Tryd.f72.name, by decide, Tryd.func72.trans (congrArg some (by kernel_rfl))⟩
  f25 := ⟨Tryd.f73.name, by decide, Tryd.func73.trans (congrArg some (by kernel_rfl))⟩
  f26 := ⟨Tryd.f74.name, by decide, Tryd.func74.trans (congrArg some (by kernel_rfl))⟩
  f27 := ⟨Tryd.f75.name, by decide, Tryd.func75.trans (congrArg some (by kernel_rfl))⟩
  f28 := Tryd.func76.trans (congrArg some (by kernel_rfl))
  f29 := Tryd.func77.trans (congrArg some (by kernel_rfl))
  f46 := ⟨Tryd.f80.name, by decide, Tryd.func80.trans (congrArg some (by kernel_rfl))⟩
  f47 := Tryd.func81.trans (congrArg some (by kernel_rfl))
  f48 := Tryd.func82.trans (congrArg some (by kernel_rfl))
  f49 := ⟨Tryd.f83.name, by decide, Tryd.func83.trans (congrArg some (by kernel_rfl))⟩
  f50 := ⟨Tryd.f84.name, by decide, Tryd.func84.trans (congrArg some (by kernel_rfl))⟩
  f57 := ⟨Tryd.f89.name, by decide, Tryd.func89.trans (congrArg some (by kernel_rfl))⟩
  t0 := Tryd.underlying0
  a0 := Tryd.isAgg0
  z0 := Tryd.sizeOf0
  v0 := Tryd.zeroValue0
  t3 := Tryd.underlying3
  a3 := Tryd.isAgg3
  z3 := Tryd.sizeOf3
  v3 := Tryd.zeroValue3
  t4 := Tryd.underlying4
  a4 := Tryd.isAgg4
  z4 := Tryd.sizeOf4
  v4 := Tryd.zeroValue4
  t5 := Tryd.underlying5
  a5 := Tryd.isAgg5
  z5 := Tryd.sizeOf5
  v5 := Tryd.zeroValue5
  t9 := Tryd.underlying9
  a9 := Tryd.isAgg9
  z9 := Tryd.sizeOf9
  v9 := Tryd.zeroValue9
  t22 := Tryd.underlying22
  a22 := Tryd.isAgg22
  z22 := Tryd.sizeOf22
  v22 := Tryd.zeroValue22
  t25 := Tryd.underlying68
  a25 := Tryd.isAgg68
  z25 := Tryd.sizeOf68
  v25 := Tryd.zeroValue68
  t39 := Tryd.underlying91
  a39 := Tryd.isAgg91
  z39 := Tryd.sizeOf91
  v39 := Tryd.zeroValue91
  t45 := Tryd.underlying97
  a45 := Tryd.isAgg97
  z45 := Tryd.sizeOf97
  v45 := Tryd.zeroValue97
  t46 := Tryd.underlying98
  a46 := Tryd.isAgg98
  z46 := Tryd.sizeOf98
  v46 := Tryd.zeroValue98
  t50 := Tryd.underlying102
  a50 := Tryd.isAgg102
  z50 := Tryd.sizeOf102
  v50 := Tryd.zeroValue102
  t53 := Tryd.underlying105
  a53 := Tryd.isAgg105
  z53 := Tryd.sizeOf105
  v53 := Tryd.zeroValue105
  t55 := Tryd.underlying107
  a55 := Tryd.isAgg107
  z55 := Tryd.sizeOf107
  v55 := Tryd.zeroValue107
  t66 := Tryd.underlying111
  a66 := Tryd.isAgg111
  z66 := Tryd.sizeOf111
  v66 := Tryd.zeroValue111
  t70 := Tryd.underlying115
  a70 := Tryd.isAgg115
  z70 := Tryd.sizeOf115
  v70 := Tryd.zeroValue115
  t76 := Tryd.underlying121
  a76 := Tryd.isAgg121
  z76 := Tryd.sizeOf121
  v76 := Tryd.zeroValue121
  t77 := Tryd.underlying47
  a77 := Tryd.isAgg47
  z77 := Tryd.sizeOf47
  v77 := Tryd.zeroValue47 }

theorem slt_trans : ∀ {a b c : List UInt8}, slt a b = true → slt b c = true → slt a c = true := by
  intro a
  induction a with
  | nil =>
    intro b c h1 h2
    cases c with
    | nil => cases b <;> simp [slt, Op.bytesLess] at h2
    | cons z c => rfl
  | cons x a ih =>
    intro b c h1 h2
    cases b with
    | nil => simp [slt, Op.bytesLess] at h1
    | cons y b =>
      cases c with
      | nil => simp [slt, Op.bytesLess] at h2
      | cons z c =>
        simp only [slt, Op.bytesLess, Bool.or_eq_true, Bool.and_eq_true, decide_eq_true_eq, beq_iff_eq] at h1 h2 ⊢
        rcases h1 with h1 | ⟨rfl, h1⟩ <;> rcases h2 with h2 | ⟨rfl, h2⟩
        · exact .inl (UInt8.lt_trans h1 h2)
        · exact .inl h1
        · exact .inl h2
        · exact .inr ⟨rfl, ih h1 h2⟩
theorem slt_total : ∀ {a b : List UInt8}, slt a b = false → slt b a = false → a = b := by
  intro a
  induction a with
  | nil =>
    intro b h1 h2
    cases b with
    | nil => rfl
    | cons y b => simp [slt, Op.bytesLess] at h1
  | cons x a ih =>
    intro b h1 h2
    cases b with
    | nil => simp [slt, Op.bytesLess] at h2
    | cons y b =>
      simp only [slt, Op.bytesLess, Bool.or_eq_false_iff, Bool.and_eq_false_iff, decide_eq_false_iff_not, beq_eq_false_iff_ne] at h1 h2
      have hxy : x = y := UInt8.le_antisymm (UInt8.not_lt.1 h2.1) (UInt8.not_lt.1 h1.1)
      subst hxy
      have e1 : slt a b = false := h1.2.resolve_left (fun h => h rfl)
      have e2 : slt b a = false := h2.2.resolve_left (fun h => h rfl)
      rw [ih e1 e2]

theorem before_iff (d e : Df) : beforeB d e = true ↔ d.a < e.a ∨ (d.a = e.a ∧ (slt d.c e.c = true ∨ (d.c = e.c ∧ (d.l < e.l ∨ (d.l = e.l ∧ d.s < e.s))))) := by
  unfold beforeB
  by_cases h1 : d.a = e.a
  · rw [show (d.a != e.a) = false by simp [h1]]
    simp only [cond_false]
    by_cases h2 : d.c = e.c
    · rw [show (!(d.c == e.c)) = false by simp [h2]]
      simp only [cond_false]
      by_cases h3 : d.l = e.l
      · rw [show (d.l != e.l) = false by simp [h3]]
        simp only [cond_false, ilt, decide_eq_true_eq]
        have := slt_irrefl e.c
        rw [h2, this]
        constructor
        · intro h; exact .inr ⟨h1, .inr ⟨rfl, .inr ⟨h3, h⟩⟩⟩
        · rintro (h | ⟨_, h | ⟨_, h | ⟨_, h⟩⟩⟩)
          · omega
          · cases h
          · omega
          · exact h
      · rw [show (d.l != e.l) = true by simp [h3]]
        simp only [cond_true, ilt, decide_eq_true_eq]
        have := slt_irrefl e.c
        rw [h2, this]
        constructor
        · intro h; exact .inr ⟨h1, .inr ⟨rfl, .inl h⟩⟩
        · rintro (h | ⟨_, h | ⟨_, h | ⟨h, _⟩⟩⟩)
          · omega
          · cases h
          · exact h
          · exact absurd h h3
    · rw [show (!(d.c == e.c)) = true by simp [h2]]
      simp only [cond_true]
      constructor
      · intro h; exact .inr ⟨h1, .inl h⟩
      · rintro (h | ⟨_, h | ⟨h, _⟩⟩)
        · omega
        · exact h
        · exact absurd h h2
  · rw [show (d.a != e.a) = true by simp [h1]]
    simp only [cond_true, ilt, decide_eq_true_eq]
    constructor
    · intro h; exact .inl h
    · rintro (h | ⟨h, _⟩)
      · exact h
      · exact absurd h h1
theorem before_irrefl (d : Df) : beforeB d d = false := by
  cases h : beforeB d d
  · rfl
  · rcases (before_iff d d).1 h with h | ⟨_, h | ⟨_, h | ⟨_, h⟩⟩⟩
    · omega
    · rw [slt_irrefl] at h; cases h
    · omega
    · omega
theorem before_trans {x y z : Df} (h1 : beforeB x y = true) (h2 : beforeB y z = true) : beforeB x z = true := by
  rw [before_iff] at *
  rcases h1 with h1 | ⟨e1, h1⟩ <;> rcases h2 with h2 | ⟨e2, h2⟩
  · exact .inl (by omega)
  · exact .inl (by omega)
  · exact .inl (by omega)
  · refine .inr ⟨by omega, ?_⟩
    rcases h1 with h1 | ⟨f1, h1⟩ <;> rcases h2 with h2 | ⟨f2, h2⟩
    · exact .inl (slt_trans h1 h2)
    · exact .inl (f2 ▸ h1)
    · exact .inl (f1 ▸ h2)
    · exact .inr ⟨f1.trans f2, by omega⟩
theorem before_total {x y : Df} (h1 : beforeB x y = false) (h2 : beforeB y x = false) : x = y := by
  have n1 : ¬ beforeB x y = true := by rw [h1]; simp
  have n2 : ¬ beforeB y x = true := by rw [h2]; simp
  rw [before_iff] at n1 n2
  have ea : x.a = y.a := by omega
  have ec : x.c = y.c := by
    refine slt_total ?_ ?_
    · cases h : slt x.c y.c
      · rfl
      · exact absurd (.inr ⟨ea, .inl h⟩) n1
    · cases h : slt y.c x.c
      · rfl
      · exact absurd (.inr ⟨ea.symm, .inl h⟩) n2
  have n1' : ¬ (x.l < y.l ∨ (x.l = y.l ∧ x.s < y.s)) := fun h => n1 (.inr ⟨ea, .inr ⟨ec, h⟩⟩)
  have n2' : ¬ (y.l < x.l ∨ (y.l = x.l ∧ y.s < x.s)) := fun h => n2 (.inr ⟨ea.symm, .inr ⟨ec.symm, h⟩⟩)
  have el : x.l = y.l := by omega
  have es : x.s = y.s := by omega
  cases x; cases y
  simp only at ea ec el es
  rw [ea, ec, el, es]
theorem ltOf_before : ltOf compareZ = beforeB := by
  funext x y
  have h := before_compare x y
  unfold ltOf
  unfold ile at h
  cases hb : beforeB x y
  · rw [hb] at h
    simp only [Bool.not_false, decide_eq_true_eq] at h
    exact decide_eq_false (by omega)
  · rw [hb] at h
    simp only [Bool.not_true, decide_eq_false_iff_not] at h
    exact decide_eq_true (by omega)
theorem swoDf : SWO (ltOf compareZ) := by
  rw [ltOf_before]
  refine ⟨before_irrefl, fun x y z => before_trans, fun x y z h1 h2 => ?_⟩
  cases h : beforeB x z
  · rfl
  · cases h3 : beforeB z y
    · have := before_total h2 h3
      subst this; rw [h1] at h; cases h
    · have := before_trans h h3
      rw [h1] at this; cases this

noncomputable def sortDf (xs : List Df) : List Df := xs.mergeSort fun x y => !beforeB y x
noncomputable def sortDfSp : SpM U El := sortSp .df 46 beforeB
noncomputable instance : Inhabited (El .df) := ⟨d_df⟩
theorem sortDfOk {X : Ctx U El} (hE : X.E = E) (hX : CtxOk Tryd.prog X) : SpMOk Tryd.prog X 49 sortDfSp := by
  have h := sortOk (X := X) (u := .df) (g := 46) (cf := compareZ) hX sortDfLay Tryd.call49
    (by rw [hE]; intro x c hc; simp only [E, List.mem_cons, List.not_mem_nil, or_false] at hc; rcases hc with rfl | rfl | rfl | rfl <;> rfl)
    Tryd.isAgg34 (by rw [hE]; exact Tryd.sizeOf34) (by rw [hE]; exact fun x y => compare.spec x y) swoDf (fun x y h1 h2 => before_total ((congrFun (congrFun ltOf_before x) y).symm.trans h1) ((congrFun (congrFun ltOf_before y) x).symm.trans h2))
  have e : sortSp (U := U) (El := El) .df 46 (ltOf compareZ) = sortDfSp := congrArg (fun f : Df → Df → Bool => sortSp (U := U) (El := El) .df 46 f) ltOf_before
  exact e ▸ h
end Go.Proofs.YtnhmhcobpbilhaaDoor
