/- The law InspectionMatched: its run. -/
import Derived.Test.YtnhmhcobpbilhaaDoorVT
namespace Go.Proofs.YtnhmhcobpbilhaaDoor
set_option linter.unusedSectionVars false
set_option linter.unusedSimpArgs false
set_option linter.unusedVariables false
set_option maxRecDepth 100000

noncomputable def closeB (t : Int) (x y : Df) : Bool := (x.c == y.c) && nearB t x y
theorem getDB {l : List Bool} {i : Nat} (h : i < l.length) : List.getD l i d_bool = l[i] := getD_lt h _

namespace closeF
noncomputable def bd : Code := (Tryd.f20.body).getD .skip
noncomputable def X : Ctx U El := ⟨E, tds, zeros, eqs, specOf [], 100000, 29, fun _ => none⟩
noncomputable def nmR : Norm U := ⟨[], [5], []⟩
noncomputable def RR : Kont U El := fun st => normK nmR st (retFin [5] [])
noncomputable def fr0 (d : Df) (e : Df) (t : Int) : St U El := ⟨[(0, (.agg [(.str d.c), (.int .i64 d.a), (.int .i64 d.l), (.int .i64 d.s)])), (1, (.agg [(.str e.c), (.int .i64 e.a), (.int .i64 e.l), (.int .i64 e.s)])), (2, (.pcs [(.int .i64 t)] 0))], []⟩
noncomputable def sh0 (d : Df) (e : Df) (t : Int) : R :=
  condB (d.c == e.c) (condB (ile (IntKind.wrap .i64 (d.a - e.a)) t) (some ((.bool (ile (IntKind.wrap .i64 (e.a - d.a)) t)), [])) (some ((.bool false), []))) (some ((.bool false), []))
theorem P0 (d : Df) (e : Df) (t : Int) : exec X (cdp [] bd) .d (fr0 d e t) RR (fun _ _ => none) RR = sh0 d e t := by kernel_rfl
noncomputable def f0 (d : Df) (e : Df) (t : Int) : R := sh0 d e t
theorem T0 (d : Df) (e : Df) (t : Int) : exec X bd .d (fr0 d e t) RR (fun _ _ => none) RR = f0 d e t := by
  refine (P0 d e t).trans ?_
  show _ = sh0 d e t
  rfl
theorem run (d : Df) (e : Df) (t : Int) : runFn X bd .d nmR [5] [] [(.agg [(.str d.c), (.int .i64 d.a), (.int .i64 d.l), (.int .i64 d.s)]), (.agg [(.str e.c), (.int .i64 e.a), (.int .i64 e.l), (.int .i64 e.s)]), (.pcs [(.int .i64 t)] 0)] = f0 d e t := T0 d e t
theorem f0_eq (d e : Df) (t : Int) (h : (okA d && okA e) = true) : f0 d e t = some (.bool (closeB t d e), []) := by
  obtain ⟨h1, h2⟩ := (Bool.and_eq_true _ _).mp h
  have g1 := pos0_iff.1 ((Bool.and_eq_true _ _).mp h1).2
  have g2 := pos0_iff.1 ((Bool.and_eq_true _ _).mp h2).2
  unfold f0 sh0 closeB nearB
  rw [wrapI (x := d.a - e.a) (by omega) (by omega), wrapI (x := e.a - d.a) (by omega) (by omega)]
  cases d.c == e.c
  · rfl
  · cases ile (d.a - e.a) t
    · rfl
    · rfl
theorem ok : CtxOk Tryd.prog X := ctxOk tab (by
  intro p hp
  cases hp)
theorem okM : MOk Tryd.prog X := fun g sp h => by cases h
theorem spec (d : Df) (e : Df) (t : Int) (h : ((okA d && okA e)) = true) : CallSpec Tryd.prog E 20 [(.agg [(.str d.c), (.int .i64 d.a), (.int .i64 d.l), (.int .i64 d.s)]), (.agg [(.str e.c), (.int .i64 e.a), (.int .i64 e.l), (.int .i64 e.s)]), (.pcs [(.int .i64 t)] 0)] (.bool (closeB t d e)) [] :=
  runFn_sound ok okM Tryd.call20 Tryd.func20 (by kernel_rfl) (by kernel_rfl) (by kernel_rfl) (by show 3 ≤ 29; decide) (by decide) (by rfl) ((run d e t).trans (f0_eq d e t h))
noncomputable def sp : Sp U El := fun args k => match args with
  | [.agg [.str d_c, .int .i64 d_a, .int .i64 d_l, .int .i64 d_s], .agg [.str e_c, .int .i64 e_a, .int .i64 e_l, .int .i64 e_s], .pcs [.int .i64 t] 0] => chk ((okA (⟨d_c, d_a, d_l, d_s⟩ : Df) && okA (⟨e_c, e_a, e_l, e_s⟩ : Df))) (k (.bool (closeB t (⟨d_c, d_a, d_l, d_s⟩ : Df) (⟨e_c, e_a, e_l, e_s⟩ : Df))) [])
  | _ => none
theorem spOk : SpOk Tryd.prog E 20 sp where
  det := fun vs => by
    unfold sp
    split
    · rename_i d_c d_a d_l d_s e_c e_a e_l e_s t
      cases hb : ((okA (⟨d_c, d_a, d_l, d_s⟩ : Df) && okA (⟨e_c, e_a, e_l, e_s⟩ : Df)))
      · exact ⟨none, fun _ => rfl⟩
      · exact ⟨some (_, _), fun _ => rfl⟩
    · exact ⟨none, fun _ => rfl⟩
  ok := fun vs k r h => by
    unfold sp at h
    split at h
    · obtain ⟨h1, h2⟩ := chk_some h
      exact ⟨_, _, spec ⟨_, _, _, _⟩ ⟨_, _, _, _⟩ _ h1, h2⟩
    · cases h
end closeF

/-! ### what a run of the matching leaves -/
theorem fm_some {t : Int} {x : Df} : ∀ {k : Nat} {ys : List Df} {us : List Bool} {j : Nat}, fm t x k ys us = some j → ∃ n, j = k + n ∧ ∃ (h1 : n < ys.length) (h2 : n < us.length), us[n] = false ∧ closeB t x ys[n] = true := by
  intro k ys
  induction ys generalizing k with
  | nil => intro us j h; cases us <;> cases h
  | cons y ys ih =>
    intro us j h
    cases us with
    | nil => cases h
    | cons u us =>
      simp only [fm] at h
      cases hc : !u && ((x.c == y.c) && nearB t x y) with
      | true =>
        rw [hc] at h
        cases h
        simp only [Bool.and_eq_true, Bool.not_eq_true'] at hc
        exact ⟨0, rfl, by simp, by simp, hc.1, by simp only [List.getElem_cons_zero, closeB, Bool.and_eq_true]; exact hc.2⟩
      | false =>
        rw [hc] at h
        obtain ⟨n, e, h1, h2, h3, h4⟩ := ih h
        exact ⟨n + 1, by omega, by simpa using h1, by simpa using h2, by simpa using h3, by simpa using h4⟩
theorem fm_none {t : Int} {x : Df} : ∀ {k : Nat} {ys : List Df} {us : List Bool}, fm t x k ys us = none → ∀ (n : Nat) (h1 : n < ys.length) (h2 : n < us.length), us[n] = false → closeB t x ys[n] = false := by
  intro k ys
  induction ys generalizing k with
  | nil => intro us h n h1; simp at h1
  | cons y ys ih =>
    intro us h n h1 h2 hu
    cases us with
    | nil => simp at h2
    | cons u us =>
      simp only [fm] at h
      cases hc : !u && ((x.c == y.c) && nearB t x y) with
      | true => rw [hc] at h; cases h
      | false =>
        rw [hc] at h
        cases n with
        | zero =>
          simp only [List.getElem_cons_zero] at hu ⊢
          subst hu
          exact hc
        | succ n => exact ih h n (by simpa using h1) (by simpa using h2) (by simpa using hu)
theorem fm_first {t : Int} {x : Df} : ∀ {ys : List Df} {us : List Bool} (k n : Nat) (h1 : n < ys.length) (h2 : n < us.length), (∀ m (h : m < us.length), m < n → us[m] = true) → us[n] = false → closeB t x ys[n] = true → fm t x k ys us = some (k + n) := by
  intro ys
  induction ys with
  | nil => intro us k n h1; simp at h1
  | cons y ys ih =>
    intro us k n h1 h2 hb hu hc
    cases us with
    | nil => simp at h2
    | cons u us =>
      simp only [fm]
      cases n with
      | zero =>
        simp only [List.getElem_cons_zero] at hu hc
        subst hu
        show (bif !false && closeB t x y then _ else _) = _
        rw [hc]
        rfl
      | succ n =>
        have := hb 0 (by simp) (by omega)
        simp only [List.getElem_cons_zero] at this
        subst this
        show fm t x (k + 1) ys us = _
        rw [ih (k + 1) n (by simpa using h1) (by simpa using h2) (fun m hm hmn => by have := hb (m + 1) (by simpa using hm) (by omega); simpa using this) (by simpa using hu) (by simpa using hc)]
        congr 1
        omega
theorem mrun_app (t : Int) (b : List Df) : ∀ (r : List Df) (i : Nat) (used : List Bool) (out : List (Int × Int)), mrun t b i r used out = out ++ mrun t b i r used [] := by
  intro r
  induction r with
  | nil => intro i used out; simp [mrun]
  | cons x r ih =>
    intro i used out
    simp only [mrun]
    split
    · rename_i j _
      rw [ih (i + 1) (used.set j true) (out ++ [((i : Int), (j : Int))]), ih (i + 1) (used.set j true) ([] ++ [((i : Int), (j : Int))])]
      simp
    · exact ih (i + 1) used out

/-- pairs that may be taken one after the other -/
def okM (a b : List Df) (t : Int) : Option Int → List Bool → List Bool → List (Int × Int) → Prop
  | _, _, _, [] => True
  | prev, first, second, p :: m => ∃ (i k : Nat), p = ((i : Int), (k : Int)) ∧ ∃ (h1 : i < a.length) (h2 : k < b.length) (h3 : i < first.length) (h4 : k < second.length), first[i] = false ∧ second[k] = false ∧ closeB t a[i] b[k] = true ∧ (∀ q, prev = some q → q < (i : Int)) ∧ okM a b t (some (i : Int)) (first.set i true) (second.set k true) m
noncomputable def mkF (f : List Bool) : List (Int × Int) → List Bool
  | [] => f
  | p :: m => mkF (f.set p.1.toNat true) m
noncomputable def mkS (f : List Bool) : List (Int × Int) → List Bool
  | [] => f
  | p :: m => mkS (f.set p.2.toNat true) m
theorem mkF_len : ∀ (m : List (Int × Int)) (f : List Bool), (mkF f m).length = f.length := by
  intro m
  induction m with
  | nil => intro f; rfl
  | cons p m ih => intro f; simp only [mkF, ih, List.length_set]
theorem mkS_len : ∀ (m : List (Int × Int)) (f : List Bool), (mkS f m).length = f.length := by
  intro m
  induction m with
  | nil => intro f; rfl
  | cons p m ih => intro f; simp only [mkS, ih, List.length_set]
theorem mkF_mono : ∀ (m : List (Int × Int)) (f : List Bool) (k : Nat), f[k]? = some true → (mkF f m)[k]? = some true := by
  intro m
  induction m with
  | nil => intro f k h; exact h
  | cons p m ih =>
    intro f k h
    refine ih _ k ?_
    rw [List.getElem?_set]
    split
    · rename_i e; subst e; rw [if_pos (List.getElem?_eq_some_iff.1 h).1]
    · exact h
theorem mkS_mono : ∀ (m : List (Int × Int)) (f : List Bool) (k : Nat), f[k]? = some true → (mkS f m)[k]? = some true := by
  intro m
  induction m with
  | nil => intro f k h; exact h
  | cons p m ih =>
    intro f k h
    refine ih _ k ?_
    rw [List.getElem?_set]
    split
    · rename_i e; subst e; rw [if_pos (List.getElem?_eq_some_iff.1 h).1]
    · exact h

theorem run_ok (a b : List Df) (t : Int) : ∀ (n i : Nat) (prev : Option Int) (first used : List Bool), a.length = i + n → first.length = a.length → (∀ i' (h : i' < first.length), i ≤ i' → first[i'] = false) → used.length = b.length → (∀ q, prev = some q → q < (i : Int)) →
    okM a b t prev first used (mrun t b i (a.drop i) used []) := by
  intro n
  induction n with
  | zero =>
    intro i prev first used h1 h2 h3 h4 h5
    rw [List.drop_of_length_le (by omega)]
    trivial
  | succ n ih =>
    intro i prev first used h1 h2 h3 h4 h5
    have hi : i < a.length := by omega
    rw [drop_lt hi]
    simp only [mrun]
    cases hf : fm t a[i] 0 b used with
    | none => exact ih (i + 1) prev first used (by omega) h2 (fun i' h hle => h3 i' h (by omega)) h4 (fun q hq => by have := h5 q hq; omega)
    | some j =>
      obtain ⟨k, e, g1, g2, g3, g4⟩ := fm_some hf
      have e : j = k := by omega
      subst e
      simp only [List.nil_append]
      rw [mrun_app]
      refine ⟨i, j, rfl, hi, g1, by omega, g2, h3 i (by omega) (by omega), g3, g4, h5, ?_⟩
      exact ih (i + 1) (some (i : Int)) (first.set i true) (used.set j true) (by omega) (by simpa using h2) (fun i' h hle => by
        rw [List.getElem_set, if_neg (by omega)]
        exact h3 i' (by simpa using h) (by omega)) (by simpa using h4) (fun q hq => by cases hq; omega)

theorem run_left (a b : List Df) (t : Int) : ∀ (n i : Nat) (first used : List Bool), a.length = i + n → first.length = a.length → used.length = b.length → ∀ (i' k : Nat) (h1 : i' < a.length) (h2 : k < b.length), i ≤ i' →
    (mkF first (mrun t b i (a.drop i) used []))[i']? = some false → (mkS used (mrun t b i (a.drop i) used []))[k]? = some false → closeB t a[i'] b[k] = false := by
  intro n
  induction n with
  | zero => intro i first used h1 h2 h3 i' k g1 g2 hle; omega
  | succ n ih =>
    intro i first used h1 h2 h3 i' k g1 g2 hle hF hS
    have hi : i < a.length := by omega
    rw [drop_lt hi] at hF hS
    simp only [mrun] at hF hS
    cases hf : fm t a[i] 0 b used with
    | none =>
      rw [hf] at hF hS
      simp only at hF hS
      by_cases e : i' = i
      · subst e
        refine fm_none hf k g2 (by omega) ?_
        cases hu : used[k] with
        | false => rfl
        | true =>
          have := mkS_mono (mrun t b (i' + 1) (a.drop (i' + 1)) used []) used k (by rw [List.getElem?_eq_getElem (by omega), hu])
          rw [this] at hS
          cases hS
      · exact ih (i + 1) first used (by omega) h2 h3 i' k g1 g2 (by omega) hF hS
    | some j =>
      rw [hf] at hF hS
      simp only [List.nil_append] at hF hS
      rw [mrun_app] at hF hS
      simp only [List.cons_append, List.nil_append, mkF, mkS] at hF hS
      rw [show ((i : Int)).toNat = i from rfl] at hF
      rw [show ((j : Int)).toNat = j from rfl] at hS
      by_cases e : i' = i
      · subst e
        have := mkF_mono (mrun t b (i' + 1) (a.drop (i' + 1)) (used.set j true) []) (first.set i' true) i' (by simp [h2, g1])
        rw [this] at hF
        cases hF
      · exact ih (i + 1) (first.set i true) (used.set j true) (by omega) (by simpa using h2) (by simpa using h3) i' k g1 g2 (by omega) hF hS

theorem close_self (x : Df) : closeB 0 x x = true := by
  simp only [closeB, nearB, beq_self_eq_true, Bool.true_and, Bool.and_eq_true]
  exact ⟨ileT (by omega), ileT (by omega)⟩
theorem run_self (a : List Df) : ∀ (n i : Nat) (used : List Bool), a.length = i + n → used.length = a.length → (∀ m (h : m < used.length), m < i → used[m] = true) → (∀ m (h : m < used.length), i ≤ m → used[m] = false) →
    (mrun 0 a i (a.drop i) used []).length = n := by
  intro n
  induction n with
  | zero =>
    intro i used h1 h2 h3 h4
    rw [List.drop_of_length_le (by omega)]
    rfl
  | succ n ih =>
    intro i used h1 h2 h3 h4
    have hi : i < a.length := by omega
    rw [drop_lt hi]
    simp only [mrun]
    rw [fm_first 0 i hi (by omega) h3 (h4 i (by omega) (Nat.le_refl _)) (close_self a[i])]
    simp only [Nat.zero_add, List.nil_append]
    rw [mrun_app]
    simp only [List.length_append, List.length_cons, List.length_nil]
    rw [ih (i + 1) (used.set i true) (by omega) (by simpa using h2) (fun m h hm => ?_) (fun m h hm => ?_)]
    · omega
    · rw [List.getElem_set]
      split
      · rfl
      · exact h3 m (by simpa using h) (by omega)
    · rw [List.getElem_set, if_neg (by omega)]
      exact h4 m (by simpa using h) (by omega)

theorem okW_okA {l : List Df} (h : okW l = true) {i : Nat} (hi : i < l.length) : okA l[i] = true :=
  List.all_eq_true.1 (Bool.and_eq_true _ _ ▸ h).2 _ (List.getElem_mem hi)

namespace lawMatched
noncomputable def bd : Code := (Tryd.f5.body).getD .skip
noncomputable def X : Ctx U El := ⟨E, tds, zeros, eqs, specOf [(10, awake.sp), (11, few.sp), (19, matchF.sp), (20, closeF.sp)], 100000, 188, fun _ => none⟩
noncomputable def nmR : Norm U := ⟨[], [6], []⟩
noncomputable def RR : Kont U El := fun st => normK nmR st (retFin [6] [])
noncomputable def nm1 : Norm U := ⟨[], [0, 1, 5], [5]⟩
noncomputable def nm2 : Norm U := ⟨[(10, .bool), (11, .bool)], [0, 1, 9, 10, 11], [10, 11, 5]⟩
noncomputable def nm3 : Norm U := ⟨[(7, .pair), (10, .bool), (11, .bool)], [0, 1, 7, 9, 10, 11, 57, 58, 59], [7, 10, 11, 5]⟩
noncomputable def nm4 : Norm U := ⟨[(7, .pair), (10, .bool), (11, .bool)], [0, 1, 7, 9, 10, 11, 57, 58, 59], [7, 10, 11, 5]⟩
noncomputable def nm5 : Norm U := ⟨[(7, .pair), (10, .bool), (11, .bool)], [0, 1, 7, 9, 10, 11, 13, 57, 58, 59], [7, 10, 11, 5, 13]⟩
noncomputable def nm6 : Norm U := ⟨[], [0], []⟩
noncomputable def nm7 : Norm U := ⟨[(10, .bool), (11, .bool)], [0, 1, 9, 10, 11, 139, 140, 141], [10, 11, 5]⟩
noncomputable def nm8 : Norm U := ⟨[(10, .bool), (11, .bool)], [0, 1, 9, 10, 11, 139, 140, 141], [10, 11, 5]⟩
noncomputable def nm9 : Norm U := ⟨[(10, .bool), (11, .bool)], [0, 1, 9, 10, 11, 14, 15, 139, 140, 141, 146, 147, 148], [10, 11, 5, 15]⟩
noncomputable def nm10 : Norm U := ⟨[(10, .bool), (11, .bool)], [0, 1, 9, 10, 11, 14, 15, 139, 140, 141, 146, 147, 148], [10, 11, 5, 15]⟩
noncomputable def fr0 (a : List Df) (b : List Df) (t : Int) : St U El := ⟨[(0, (.lst .df a)), (1, (.lst .df b)), (2, (.int .i64 t))], []⟩
noncomputable def fr1 (a0 : List Df) (b1 : List Df) (b5_0 : Int) : St U El := ⟨[(0, (.lst .df a0)), (1, (.lst .df b1)), (5, (.ptr 5 0))], [(5, (.box [(.int .i64 b5_0)]))]⟩
noncomputable def fr2 (a0 : List Df) (b1 : List Df) (first10 : List Bool) (second11 : List Bool) (b5_0 : Int) : St U El := ⟨[(0, (.lst .df a0)), (1, (.lst .df b1)), (9, (.fn 20 [] [(.ptr 5 0)])), (10, (.ful 10)), (11, (.ful 11))], [(10, (.rows .bool first10)), (11, (.rows .bool second11)), (5, (.box [(.int .i64 b5_0)]))]⟩
noncomputable def fr3 (a0 : List Df) (b1 : List Df) (m7 : List (Int × Int)) (first10 : List Bool) (second11 : List Bool) (x58 : Int) (x59 : Int) (b5_0 : Int) : St U El := ⟨[(0, (.lst .df a0)), (1, (.lst .df b1)), (7, (.ful 7)), (9, (.fn 20 [] [(.ptr 5 0)])), (10, (.ful 10)), (11, (.ful 11)), (57, (.ful 7)), (58, (.int .i64 x58)), (59, (.int .i64 x59))], [(7, (.rows .pair m7)), (10, (.rows .bool first10)), (11, (.rows .bool second11)), (5, (.box [(.int .i64 b5_0)]))]⟩
noncomputable def fr4 (a0 : List Df) (b1 : List Df) (m7 : List (Int × Int)) (first10 : List Bool) (second11 : List Bool) (x58 : Int) (x59 : Int) (b5_0 : Int) : St U El := ⟨[(0, (.lst .df a0)), (1, (.lst .df b1)), (7, (.ful 7)), (9, (.fn 20 [] [(.ptr 5 0)])), (10, (.ful 10)), (11, (.ful 11)), (57, (.ful 7)), (58, (.int .i64 x58)), (59, (.int .i64 x59))], [(7, (.rows .pair m7)), (10, (.rows .bool first10)), (11, (.rows .bool second11)), (5, (.box [(.int .i64 b5_0)]))]⟩
noncomputable def fr5 (a0 : List Df) (b1 : List Df) (m7 : List (Int × Int)) (first10 : List Bool) (second11 : List Bool) (x58 : Int) (x59 : Int) (b5_0 : Int) (b13 : Int × Int) : St U El := ⟨[(0, (.lst .df a0)), (1, (.lst .df b1)), (7, (.ful 7)), (9, (.fn 20 [] [(.ptr 5 0)])), (10, (.ful 10)), (11, (.ful 11)), (13, (.ptr 13 0)), (57, (.ful 7)), (58, (.int .i64 x58)), (59, (.int .i64 x59))], [(7, (.rows .pair m7)), (10, (.rows .bool first10)), (11, (.rows .bool second11)), (5, (.box [(.int .i64 b5_0)])), (13, (.box [(.int .i64 b13.1), (.int .i64 b13.2)]))]⟩
noncomputable def fr6 (a0 : List Df) : St U El := ⟨[(0, (.lst .df a0))], []⟩
noncomputable def fr7 (a0 : List Df) (b1 : List Df) (first10 : List Bool) (second11 : List Bool) (x139 : List Df) (x140 : Int) (x141 : Int) (b5_0 : Int) : St U El := ⟨[(0, (.lst .df a0)), (1, (.lst .df b1)), (9, (.fn 20 [] [(.ptr 5 0)])), (10, (.ful 10)), (11, (.ful 11)), (139, (.lst .df x139)), (140, (.int .i64 x140)), (141, (.int .i64 x141))], [(10, (.rows .bool first10)), (11, (.rows .bool second11)), (5, (.box [(.int .i64 b5_0)]))]⟩
noncomputable def fr8 (a0 : List Df) (b1 : List Df) (first10 : List Bool) (second11 : List Bool) (x139 : List Df) (x140 : Int) (x141 : Int) (b5_0 : Int) : St U El := ⟨[(0, (.lst .df a0)), (1, (.lst .df b1)), (9, (.fn 20 [] [(.ptr 5 0)])), (10, (.ful 10)), (11, (.ful 11)), (139, (.lst .df x139)), (140, (.int .i64 x140)), (141, (.int .i64 x141))], [(10, (.rows .bool first10)), (11, (.rows .bool second11)), (5, (.box [(.int .i64 b5_0)]))]⟩
noncomputable def fr9 (a0 : List Df) (b1 : List Df) (first10 : List Bool) (second11 : List Bool) (i14 : Int) (x139 : List Df) (x140 : Int) (x141 : Int) (x146 : List Df) (x147 : Int) (x148 : Int) (b5_0 : Int) (b15 : Df) : St U El := ⟨[(0, (.lst .df a0)), (1, (.lst .df b1)), (9, (.fn 20 [] [(.ptr 5 0)])), (10, (.ful 10)), (11, (.ful 11)), (14, (.int .i64 i14)), (15, (.ptr 15 0)), (139, (.lst .df x139)), (140, (.int .i64 x140)), (141, (.int .i64 x141)), (146, (.lst .df x146)), (147, (.int .i64 x147)), (148, (.int .i64 x148))], [(10, (.rows .bool first10)), (11, (.rows .bool second11)), (5, (.box [(.int .i64 b5_0)])), (15, (.box [(.str b15.c), (.int .i64 b15.a), (.int .i64 b15.l), (.int .i64 b15.s)]))]⟩
noncomputable def fr10 (a0 : List Df) (b1 : List Df) (first10 : List Bool) (second11 : List Bool) (i14 : Int) (x139 : List Df) (x140 : Int) (x141 : Int) (x146 : List Df) (x147 : Int) (x148 : Int) (b5_0 : Int) (b15 : Df) : St U El := ⟨[(0, (.lst .df a0)), (1, (.lst .df b1)), (9, (.fn 20 [] [(.ptr 5 0)])), (10, (.ful 10)), (11, (.ful 11)), (14, (.int .i64 i14)), (15, (.ptr 15 0)), (139, (.lst .df x139)), (140, (.int .i64 x140)), (141, (.int .i64 x141)), (146, (.lst .df x146)), (147, (.int .i64 x147)), (148, (.int .i64 x148))], [(10, (.rows .bool first10)), (11, (.rows .bool second11)), (5, (.box [(.int .i64 b5_0)])), (15, (.box [(.str b15.c), (.int .i64 b15.a), (.int .i64 b15.l), (.int .i64 b15.s)]))]⟩
noncomputable def sh0 (a : List Df) (b : List Df) (t : Int) (k1 : (List Df) → (List Df) → Int → R) : R :=
  condB (!(true)) (some ((.bool false), [])) (condB (!(fewB a)) (some ((.bool true), [])) (condB (!(fewB b)) (some ((.bool true), [])) (k1 a b t)))
noncomputable def sh1 (a0 : List Df) (b1 : List Df) (b5_0 : Int) (k3 : (List Df) → (List Df) → (List (Int × Int)) → (List Bool) → (List Bool) → Int → Int → Int → R) : R :=
  condB ((matchE b5_0 a0 b1) != (0 : Int)) (condB ((Int.ofNat (List.length (matchL b5_0 a0 b1))) == (0 : Int)) (condB ((matchE b5_0 a0 b1) == (1 : Int)) (some ((.bool true), [])) (some ((.bool ((matchE b5_0 a0 b1) == (2 : Int))), []))) (some ((.bool false), []))) (chk (ile 0 (Int.ofNat (List.length a0)) && ile (Int.ofNat (List.length a0)) (Int.ofNat (List.length a0)) && ile ((Int.ofNat (List.length a0)) * 1) 140737488355328) (chk (ile 0 (Int.ofNat (List.length b1)) && ile (Int.ofNat (List.length b1)) (Int.ofNat (List.length b1)) && ile ((Int.ofNat (List.length b1)) * 1) 140737488355328) (k3 a0 b1 (matchL b5_0 a0 b1) (List.replicate (Int.toNat (Int.ofNat (List.length a0))) d_bool) (List.replicate (Int.toNat (Int.ofNat (List.length b1))) d_bool) (Int.ofNat (List.length (matchL b5_0 a0 b1))) (0 : Int) b5_0)))
noncomputable def sh2 (a0 : List Df) (b1 : List Df) (first10 : List Bool) (second11 : List Bool) (b5_0 : Int) (k7 : (List Df) → (List Df) → (List Bool) → (List Bool) → (List Df) → Int → Int → Int → R) : R :=
  k7 a0 b1 first10 second11 a0 (Int.ofNat (List.length a0)) (0 : Int) b5_0
noncomputable def sh3 (a0 : List Df) (b1 : List Df) (m7 : List (Int × Int)) (first10 : List Bool) (second11 : List Bool) (x58 : Int) (x59 : Int) (b5_0 : Int) (k2 : (List Df) → (List Df) → (List Bool) → (List Bool) → Int → R) (k5 : (List Df) → (List Df) → (List (Int × Int)) → (List Bool) → (List Bool) → Int → Int → Int → (Int × Int) → R) : R :=
  condB (ilt x59 x58) (chk (inb x59 (List.length m7)) (chk (nlt (Int.toNat x59) (List.length m7)) (condB (ilt ((List.getD m7 (Int.toNat x59) d_pair).1) (0 : Int)) (some ((.bool false), [])) (condB (ile (Int.ofNat (List.length a0)) ((List.getD m7 (Int.toNat x59) d_pair).1)) (some ((.bool false), [])) (condB (ilt ((List.getD m7 (Int.toNat x59) d_pair).2) (0 : Int)) (some ((.bool false), [])) (condB (ile (Int.ofNat (List.length b1)) ((List.getD m7 (Int.toNat x59) d_pair).2)) (some ((.bool false), [])) (chk (inb ((List.getD m7 (Int.toNat x59) d_pair).1) (List.length first10)) (chk (nlt (Int.toNat ((List.getD m7 (Int.toNat x59) d_pair).1)) (List.length first10)) (condB (List.getD first10 (Int.toNat ((List.getD m7 (Int.toNat x59) d_pair).1)) d_bool) (some ((.bool false), [])) (chk (inb ((List.getD m7 (Int.toNat x59) d_pair).2) (List.length second11)) (chk (nlt (Int.toNat ((List.getD m7 (Int.toNat x59) d_pair).2)) (List.length second11)) (condB (List.getD second11 (Int.toNat ((List.getD m7 (Int.toNat x59) d_pair).2)) d_bool) (some ((.bool false), [])) (chk (inb ((List.getD m7 (Int.toNat x59) d_pair).1) (List.length a0)) (chk (inb ((List.getD m7 (Int.toNat x59) d_pair).2) (List.length b1)) (chk ((okA (List.getD a0 (Int.toNat ((List.getD m7 (Int.toNat x59) d_pair).1)) d_df) && okA (List.getD b1 (Int.toNat ((List.getD m7 (Int.toNat x59) d_pair).2)) d_df))) (condB (!(closeB b5_0 (List.getD a0 (Int.toNat ((List.getD m7 (Int.toNat x59) d_pair).1)) d_df) (List.getD b1 (Int.toNat ((List.getD m7 (Int.toNat x59) d_pair).2)) d_df))) (some ((.bool false), [])) (condB (ilt (0 : Int) x59) (chk (inb (IntKind.wrap .i64 (x59 - (1 : Int))) (List.length m7)) (chk (nlt (Int.toNat (IntKind.wrap .i64 (x59 - (1 : Int)))) (List.length m7)) (condB (ile ((List.getD m7 (Int.toNat x59) d_pair).1) ((List.getD m7 (Int.toNat (IntKind.wrap .i64 (x59 - (1 : Int)))) d_pair).1)) (some ((.bool false), [])) (k5 a0 b1 m7 first10 second11 x58 x59 b5_0 (List.getD m7 (Int.toNat x59) d_pair))))) (k5 a0 b1 m7 first10 second11 x58 x59 b5_0 (List.getD m7 (Int.toNat x59) d_pair))))))))))))))))))) (k2 a0 b1 first10 second11 b5_0)
noncomputable def sh4 (a0 : List Df) (b1 : List Df) (m7 : List (Int × Int)) (first10 : List Bool) (second11 : List Bool) (x58 : Int) (x59 : Int) (b5_0 : Int) (k3 : (List Df) → (List Df) → (List (Int × Int)) → (List Bool) → (List Bool) → Int → Int → Int → R) : R :=
  k3 a0 b1 m7 first10 second11 x58 (IntKind.wrap .i64 (x59 + (1 : Int))) b5_0
noncomputable def sh5 (a0 : List Df) (b1 : List Df) (m7 : List (Int × Int)) (first10 : List Bool) (second11 : List Bool) (x58 : Int) (x59 : Int) (b5_0 : Int) (b13 : Int × Int) (k4 : (List Df) → (List Df) → (List (Int × Int)) → (List Bool) → (List Bool) → Int → Int → Int → R) : R :=
  chk (inb b13.1 (List.length first10)) (chk (nlt (Int.toNat b13.1) (List.length first10) && true) (chk (inb b13.2 (List.length second11)) (chk (nlt (Int.toNat b13.2) (List.length second11) && true) (k4 a0 b1 m7 (List.set first10 (Int.toNat b13.1) true) (List.set second11 (Int.toNat b13.2) true) x58 x59 b5_0))))
noncomputable def sh6 (a0 : List Df) : R :=
  condB ((matchE (0 : Int) a0 a0) == (0 : Int)) (some ((.bool ((Int.ofNat (List.length (matchL (0 : Int) a0 a0))) == (Int.ofNat (List.length a0)))), [])) (some ((.bool false), []))
noncomputable def sh7 (a0 : List Df) (b1 : List Df) (first10 : List Bool) (second11 : List Bool) (x139 : List Df) (x140 : Int) (x141 : Int) (b5_0 : Int) (k6 : (List Df) → R) (k9 : (List Df) → (List Df) → (List Bool) → (List Bool) → Int → (List Df) → Int → Int → (List Df) → Int → Int → Int → Df → R) : R :=
  condB (ilt x141 x140) (chk (inb x141 (List.length x139)) (k9 a0 b1 first10 second11 x141 x139 x140 x141 b1 (Int.ofNat (List.length b1)) (0 : Int) b5_0 (List.getD x139 (Int.toNat x141) d_df))) (k6 a0)
noncomputable def sh8 (a0 : List Df) (b1 : List Df) (first10 : List Bool) (second11 : List Bool) (x139 : List Df) (x140 : Int) (x141 : Int) (b5_0 : Int) (k7 : (List Df) → (List Df) → (List Bool) → (List Bool) → (List Df) → Int → Int → Int → R) : R :=
  k7 a0 b1 first10 second11 x139 x140 (IntKind.wrap .i64 (x141 + (1 : Int))) b5_0
noncomputable def sh9 (a0 : List Df) (b1 : List Df) (first10 : List Bool) (second11 : List Bool) (i14 : Int) (x139 : List Df) (x140 : Int) (x141 : Int) (x146 : List Df) (x147 : Int) (x148 : Int) (b5_0 : Int) (b15 : Df) (k8 : (List Df) → (List Df) → (List Bool) → (List Bool) → (List Df) → Int → Int → Int → R) (k10 : (List Df) → (List Df) → (List Bool) → (List Bool) → Int → (List Df) → Int → Int → (List Df) → Int → Int → Int → Df → R) : R :=
  condB (ilt x148 x147) (chk (inb x148 (List.length x146)) (chk (inb i14 (List.length first10)) (chk (nlt (Int.toNat i14) (List.length first10)) (condB (!(List.getD first10 (Int.toNat i14) d_bool)) (chk (inb x148 (List.length second11)) (chk (nlt (Int.toNat x148) (List.length second11)) (condB (!(List.getD second11 (Int.toNat x148) d_bool)) (chk ((okA b15 && okA (List.getD x146 (Int.toNat x148) d_df))) (condB (closeB b5_0 b15 (List.getD x146 (Int.toNat x148) d_df)) (some ((.bool false), [])) (k10 a0 b1 first10 second11 i14 x139 x140 x141 x146 x147 x148 b5_0 b15))) (k10 a0 b1 first10 second11 i14 x139 x140 x141 x146 x147 x148 b5_0 b15)))) (k10 a0 b1 first10 second11 i14 x139 x140 x141 x146 x147 x148 b5_0 b15))))) (k8 a0 b1 first10 second11 x139 x140 x141 b5_0)
noncomputable def sh10 (a0 : List Df) (b1 : List Df) (first10 : List Bool) (second11 : List Bool) (i14 : Int) (x139 : List Df) (x140 : Int) (x141 : Int) (x146 : List Df) (x147 : Int) (x148 : Int) (b5_0 : Int) (b15 : Df) (k9 : (List Df) → (List Df) → (List Bool) → (List Bool) → Int → (List Df) → Int → Int → (List Df) → Int → Int → Int → Df → R) : R :=
  k9 a0 b1 first10 second11 i14 x139 x140 x141 x146 x147 (IntKind.wrap .i64 (x148 + (1 : Int))) b5_0 b15
noncomputable def it3 (Kb2 : Kont U El) (n : Nat) : Kont U El := iter nm3 (fun st' K' => exec X (cdp [1, 1, 1, 1, 1, 1, 1, 0, 1, 0, 0] bd) (.seq none .d (.seq none .d (.seq (some nm4) (.block (.seq none .d (.seq (some nm5) .d (.region [(7, 10), (9, 11)])))) .d))) st' K' (Eblk 0 (cutK nm2 Kb2) (fun _ _ => none)) RR) n
noncomputable def it7 (Kb6 : Kont U El) (n : Nat) : Kont U El := iter nm7 (fun st' K' => exec X (cdp [1, 1, 1, 1, 1, 1, 1, 1, 0, 1, 0, 0] bd) (.seq none .d (.seq none .d (.seq (some nm8) (.block (.seq none .d (.seq none .d (.block (.loop nm9 (.seq none .d (.seq none .d (.seq (some nm10) .d .d)))))))) .d))) st' K' (Eblk 2 (cutK nm6 Kb6) (fun _ _ => none)) RR) n
noncomputable def it9 (Kb6 : Kont U El) (Kb8 : Kont U El) (n : Nat) : Kont U El := iter nm9 (fun st' K' => exec X (cdp [1, 1, 1, 1, 1, 1, 1, 1, 0, 1, 0, 0, 1, 1, 0, 0, 1, 1, 0, 0] bd) (.seq none .d (.seq none .d (.seq (some nm10) .d .d))) st' K' (Eblk 4 (cutK nm8 Kb8) (Eblk 3 (cutK nm8 Kb8) (Eblk 2 (cutK nm6 Kb6) (fun _ _ => none)))) RR) n
noncomputable def ct1 : Kont U El := fun st => exec X (cdp [1, 1, 1] bd) (.seq none .d (.seq none .d (.seq none .d (.seq none .d (.seq (some nm2) (.seq none .d (.block (.loop nm3 (.seq none .d (.seq none .d (.seq (some nm4) (.block (.seq none .d (.seq (some nm5) .d (.region [(7, 10), (9, 11)])))) .d)))))) (.seq (some nm6) (.seq none .d (.block (.loop nm7 (.seq none .d (.seq none .d (.seq (some nm8) (.block (.seq none .d (.seq none .d (.block (.loop nm9 (.seq none .d (.seq none .d (.seq (some nm10) .d .d)))))))) .d)))))) .d)))))) st RR (fun _ _ => none) RR
noncomputable def ct2 : Kont U El := fun st => exec X (cdp [1, 1, 1, 1, 1, 1, 1, 1] bd) (.seq (some nm6) (.seq none .d (.block (.loop nm7 (.seq none .d (.seq none .d (.seq (some nm8) (.block (.seq none .d (.seq none .d (.block (.loop nm9 (.seq none .d (.seq none .d (.seq (some nm10) .d .d)))))))) .d)))))) .d) st RR (fun _ _ => none) RR
noncomputable def ct4 (Kb2 : Kont U El) (Kb3 : Kont U El) : Kont U El := fun st => exec X (cdp [1, 1, 1, 1, 1, 1, 1, 0, 1, 0, 0, 1, 1, 1] bd) .d st (cutK nm3 Kb3) (Eblk 0 (cutK nm2 Kb2) (fun _ _ => none)) RR
noncomputable def ct5 (Kb2 : Kont U El) (Kb4 : Kont U El) : Kont U El := fun st => exec X (cdp [1, 1, 1, 1, 1, 1, 1, 0, 1, 0, 0, 1, 1, 0, 0, 1, 1] bd) (.region [(7, 10), (9, 11)]) st (cutK nm4 Kb4) (Eblk 1 (cutK nm4 Kb4) (Eblk 0 (cutK nm2 Kb2) (fun _ _ => none))) RR
noncomputable def ct6 : Kont U El := fun st => exec X (cdp [1, 1, 1, 1, 1, 1, 1, 1, 1] bd) .d st RR (fun _ _ => none) RR
noncomputable def ct8 (Kb6 : Kont U El) (Kb7 : Kont U El) : Kont U El := fun st => exec X (cdp [1, 1, 1, 1, 1, 1, 1, 1, 0, 1, 0, 0, 1, 1, 1] bd) .d st (cutK nm7 Kb7) (Eblk 2 (cutK nm6 Kb6) (fun _ _ => none)) RR
noncomputable def ct10 (Kb6 : Kont U El) (Kb8 : Kont U El) (Kb9 : Kont U El) : Kont U El := fun st => exec X (cdp [1, 1, 1, 1, 1, 1, 1, 1, 0, 1, 0, 0, 1, 1, 0, 0, 1, 1, 0, 0, 1, 1, 1] bd) .d st (cutK nm9 Kb9) (Eblk 4 (cutK nm8 Kb8) (Eblk 3 (cutK nm8 Kb8) (Eblk 2 (cutK nm6 Kb6) (fun _ _ => none)))) RR
theorem P0 (a : List Df) (b : List Df) (t : Int) : exec X (cdp [] bd) (.seq none .d (.seq none .d (.seq (some nm1) .d (.seq none .d (.seq none .d (.seq none .d (.seq none .d (.seq (some nm2) (.seq none .d (.block (.loop nm3 (.seq none .d (.seq none .d (.seq (some nm4) (.block (.seq none .d (.seq (some nm5) .d (.region [(7, 10), (9, 11)])))) .d)))))) (.seq (some nm6) (.seq none .d (.block (.loop nm7 (.seq none .d (.seq none .d (.seq (some nm8) (.block (.seq none .d (.seq none .d (.block (.loop nm9 (.seq none .d (.seq none .d (.seq (some nm10) .d .d)))))))) .d)))))) .d))))))))) (fr0 a b t) RR (fun _ _ => none) RR = sh0 a b t (fun y0 y1 y2 => (hid ct1) (fr1 y0 y1 y2)) := by kernel_rfl
theorem P1 (a0 : List Df) (b1 : List Df) (b5_0 : Int) : exec X (cdp [1, 1, 1] bd) (.seq none .d (.seq none .d (.seq none .d (.seq none .d (.seq (some nm2) (.seq none .d (.block (.loop nm3 (.seq none .d (.seq none .d (.seq (some nm4) (.block (.seq none .d (.seq (some nm5) .d (.region [(7, 10), (9, 11)])))) .d)))))) (.seq (some nm6) (.seq none .d (.block (.loop nm7 (.seq none .d (.seq none .d (.seq (some nm8) (.block (.seq none .d (.seq none .d (.block (.loop nm9 (.seq none .d (.seq none .d (.seq (some nm10) .d .d)))))))) .d)))))) .d)))))) (fr1 a0 b1 b5_0) RR (fun _ _ => none) RR = sh1 a0 b1 b5_0 (fun y0 y1 y2 y3 y4 y5 y6 y7 => (hid (it3 (hid ct2) 100000)) (fr3 y0 y1 y2 y3 y4 y5 y6 y7)) := by kernel_rfl
theorem P2 (a0 : List Df) (b1 : List Df) (first10 : List Bool) (second11 : List Bool) (b5_0 : Int) : exec X (cdp [1, 1, 1, 1, 1, 1, 1, 1] bd) (.seq (some nm6) (.seq none .d (.block (.loop nm7 (.seq none .d (.seq none .d (.seq (some nm8) (.block (.seq none .d (.seq none .d (.block (.loop nm9 (.seq none .d (.seq none .d (.seq (some nm10) .d .d)))))))) .d)))))) .d) (fr2 a0 b1 first10 second11 b5_0) RR (fun _ _ => none) RR = sh2 a0 b1 first10 second11 b5_0 (fun y0 y1 y2 y3 y4 y5 y6 y7 => (hid (it7 (hid ct6) 100000)) (fr7 y0 y1 y2 y3 y4 y5 y6 y7)) := by kernel_rfl
theorem P3 (a0 : List Df) (b1 : List Df) (m7 : List (Int × Int)) (first10 : List Bool) (second11 : List Bool) (x58 : Int) (x59 : Int) (b5_0 : Int) (Kb2 : Kont U El) (Kb3 : Kont U El) : exec X (cdp [1, 1, 1, 1, 1, 1, 1, 0, 1, 0, 0] bd) (.seq none .d (.seq none .d (.seq (some nm4) (.block (.seq none .d (.seq (some nm5) .d (.region [(7, 10), (9, 11)])))) .d))) (fr3 a0 b1 m7 first10 second11 x58 x59 b5_0) (cutK nm3 Kb3) (Eblk 0 (cutK nm2 Kb2) (fun _ _ => none)) RR = sh3 a0 b1 m7 first10 second11 x58 x59 b5_0 (fun y0 y1 y2 y3 y4 => Kb2 (fr2 y0 y1 y2 y3 y4)) (fun y0 y1 y2 y3 y4 y5 y6 y7 y8 => (hid (ct5 Kb2 (hid (ct4 Kb2 Kb3)))) (fr5 y0 y1 y2 y3 y4 y5 y6 y7 y8)) := by kernel_rfl
theorem P4 (a0 : List Df) (b1 : List Df) (m7 : List (Int × Int)) (first10 : List Bool) (second11 : List Bool) (x58 : Int) (x59 : Int) (b5_0 : Int) (Kb2 : Kont U El) (Kb3 : Kont U El) : exec X (cdp [1, 1, 1, 1, 1, 1, 1, 0, 1, 0, 0, 1, 1, 1] bd) .d (fr4 a0 b1 m7 first10 second11 x58 x59 b5_0) (cutK nm3 Kb3) (Eblk 0 (cutK nm2 Kb2) (fun _ _ => none)) RR = sh4 a0 b1 m7 first10 second11 x58 x59 b5_0 (fun y0 y1 y2 y3 y4 y5 y6 y7 => Kb3 (fr3 y0 y1 y2 y3 y4 y5 y6 y7)) := by kernel_rfl
theorem P5 (a0 : List Df) (b1 : List Df) (m7 : List (Int × Int)) (first10 : List Bool) (second11 : List Bool) (x58 : Int) (x59 : Int) (b5_0 : Int) (b13 : Int × Int) (Kb2 : Kont U El) (Kb4 : Kont U El) : exec X (cdp [1, 1, 1, 1, 1, 1, 1, 0, 1, 0, 0, 1, 1, 0, 0, 1, 1] bd) (.region [(7, 10), (9, 11)]) (fr5 a0 b1 m7 first10 second11 x58 x59 b5_0 b13) (cutK nm4 Kb4) (Eblk 1 (cutK nm4 Kb4) (Eblk 0 (cutK nm2 Kb2) (fun _ _ => none))) RR = sh5 a0 b1 m7 first10 second11 x58 x59 b5_0 b13 (fun y0 y1 y2 y3 y4 y5 y6 y7 => Kb4 (fr4 y0 y1 y2 y3 y4 y5 y6 y7)) := by kernel_rfl
theorem P6 (a0 : List Df) : exec X (cdp [1, 1, 1, 1, 1, 1, 1, 1, 1] bd) .d (fr6 a0) RR (fun _ _ => none) RR = sh6 a0 := by kernel_rfl
theorem P7 (a0 : List Df) (b1 : List Df) (first10 : List Bool) (second11 : List Bool) (x139 : List Df) (x140 : Int) (x141 : Int) (b5_0 : Int) (Kb6 : Kont U El) (Kb7 : Kont U El) : exec X (cdp [1, 1, 1, 1, 1, 1, 1, 1, 0, 1, 0, 0] bd) (.seq none .d (.seq none .d (.seq (some nm8) (.block (.seq none .d (.seq none .d (.block (.loop nm9 (.seq none .d (.seq none .d (.seq (some nm10) .d .d)))))))) .d))) (fr7 a0 b1 first10 second11 x139 x140 x141 b5_0) (cutK nm7 Kb7) (Eblk 2 (cutK nm6 Kb6) (fun _ _ => none)) RR = sh7 a0 b1 first10 second11 x139 x140 x141 b5_0 (fun y0 => Kb6 (fr6 y0)) (fun y0 y1 y2 y3 y4 y5 y6 y7 y8 y9 y10 y11 y12 => (hid (it9 Kb6 (hid (ct8 Kb6 Kb7)) 100000)) (fr9 y0 y1 y2 y3 y4 y5 y6 y7 y8 y9 y10 y11 y12)) := by kernel_rfl
theorem P8 (a0 : List Df) (b1 : List Df) (first10 : List Bool) (second11 : List Bool) (x139 : List Df) (x140 : Int) (x141 : Int) (b5_0 : Int) (Kb6 : Kont U El) (Kb7 : Kont U El) : exec X (cdp [1, 1, 1, 1, 1, 1, 1, 1, 0, 1, 0, 0, 1, 1, 1] bd) .d (fr8 a0 b1 first10 second11 x139 x140 x141 b5_0) (cutK nm7 Kb7) (Eblk 2 (cutK nm6 Kb6) (fun _ _ => none)) RR = sh8 a0 b1 first10 second11 x139 x140 x141 b5_0 (fun y0 y1 y2 y3 y4 y5 y6 y7 => Kb7 (fr7 y0 y1 y2 y3 y4 y5 y6 y7)) := by kernel_rfl
theorem P9 (a0 : List Df) (b1 : List Df) (first10 : List Bool) (second11 : List Bool) (i14 : Int) (x139 : List Df) (x140 : Int) (x141 : Int) (x146 : List Df) (x147 : Int) (x148 : Int) (b5_0 : Int) (b15 : Df) (Kb6 : Kont U El) (Kb8 : Kont U El) (Kb9 : Kont U El) : exec X (cdp [1, 1, 1, 1, 1, 1, 1, 1, 0, 1, 0, 0, 1, 1, 0, 0, 1, 1, 0, 0] bd) (.seq none .d (.seq none .d (.seq (some nm10) .d .d))) (fr9 a0 b1 first10 second11 i14 x139 x140 x141 x146 x147 x148 b5_0 b15) (cutK nm9 Kb9) (Eblk 4 (cutK nm8 Kb8) (Eblk 3 (cutK nm8 Kb8) (Eblk 2 (cutK nm6 Kb6) (fun _ _ => none)))) RR = sh9 a0 b1 first10 second11 i14 x139 x140 x141 x146 x147 x148 b5_0 b15 (fun y0 y1 y2 y3 y4 y5 y6 y7 => Kb8 (fr8 y0 y1 y2 y3 y4 y5 y6 y7)) (fun y0 y1 y2 y3 y4 y5 y6 y7 y8 y9 y10 y11 y12 => (hid (ct10 Kb6 Kb8 Kb9)) (fr10 y0 y1 y2 y3 y4 y5 y6 y7 y8 y9 y10 y11 y12)) := by kernel_rfl
theorem P10 (a0 : List Df) (b1 : List Df) (first10 : List Bool) (second11 : List Bool) (i14 : Int) (x139 : List Df) (x140 : Int) (x141 : Int) (x146 : List Df) (x147 : Int) (x148 : Int) (b5_0 : Int) (b15 : Df) (Kb6 : Kont U El) (Kb8 : Kont U El) (Kb9 : Kont U El) : exec X (cdp [1, 1, 1, 1, 1, 1, 1, 1, 0, 1, 0, 0, 1, 1, 0, 0, 1, 1, 0, 0, 1, 1, 1] bd) .d (fr10 a0 b1 first10 second11 i14 x139 x140 x141 x146 x147 x148 b5_0 b15) (cutK nm9 Kb9) (Eblk 4 (cutK nm8 Kb8) (Eblk 3 (cutK nm8 Kb8) (Eblk 2 (cutK nm6 Kb6) (fun _ _ => none)))) RR = sh10 a0 b1 first10 second11 i14 x139 x140 x141 x146 x147 x148 b5_0 b15 (fun y0 y1 y2 y3 y4 y5 y6 y7 y8 y9 y10 y11 y12 => Kb9 (fr9 y0 y1 y2 y3 y4 y5 y6 y7 y8 y9 y10 y11 y12)) := by kernel_rfl
noncomputable def f6 (a0 : List Df) : R := sh6 a0
noncomputable def f8 (k7 : (List Df) → (List Df) → (List Bool) → (List Bool) → (List Df) → Int → Int → Int → R) (a0 : List Df) (b1 : List Df) (first10 : List Bool) (second11 : List Bool) (x139 : List Df) (x140 : Int) (x141 : Int) (b5_0 : Int) : R := sh8 a0 b1 first10 second11 x139 x140 x141 b5_0 k7
noncomputable def f10 (k7 : (List Df) → (List Df) → (List Bool) → (List Bool) → (List Df) → Int → Int → Int → R) (k9 : (List Df) → (List Df) → (List Bool) → (List Bool) → Int → (List Df) → Int → Int → (List Df) → Int → Int → Int → Df → R) (a0 : List Df) (b1 : List Df) (first10 : List Bool) (second11 : List Bool) (i14 : Int) (x139 : List Df) (x140 : Int) (x141 : Int) (x146 : List Df) (x147 : Int) (x148 : Int) (b5_0 : Int) (b15 : Df) : R := sh10 a0 b1 first10 second11 i14 x139 x140 x141 x146 x147 x148 b5_0 b15 k9
noncomputable def f9 (k7 : (List Df) → (List Df) → (List Bool) → (List Bool) → (List Df) → Int → Int → Int → R) : Nat → (List Df) → (List Df) → (List Bool) → (List Bool) → Int → (List Df) → Int → Int → (List Df) → Int → Int → Int → Df → R
  | 0 => fun _ _ _ _ _ _ _ _ _ _ _ _ _ => none
  | n + 1 => fun a0 b1 first10 second11 i14 x139 x140 x141 x146 x147 x148 b5_0 b15 => sh9 a0 b1 first10 second11 i14 x139 x140 x141 x146 x147 x148 b5_0 b15 (f8 k7) (f10 k7 (f9 k7 n))
noncomputable def f7 : Nat → (List Df) → (List Df) → (List Bool) → (List Bool) → (List Df) → Int → Int → Int → R
  | 0 => fun _ _ _ _ _ _ _ _ => none
  | n + 1 => fun a0 b1 first10 second11 x139 x140 x141 b5_0 => sh7 a0 b1 first10 second11 x139 x140 x141 b5_0 f6 (f9 (f7 n) 100000)
noncomputable def f2 (a0 : List Df) (b1 : List Df) (first10 : List Bool) (second11 : List Bool) (b5_0 : Int) : R := sh2 a0 b1 first10 second11 b5_0 (f7 100000)
noncomputable def f4 (k3 : (List Df) → (List Df) → (List (Int × Int)) → (List Bool) → (List Bool) → Int → Int → Int → R) (a0 : List Df) (b1 : List Df) (m7 : List (Int × Int)) (first10 : List Bool) (second11 : List Bool) (x58 : Int) (x59 : Int) (b5_0 : Int) : R := sh4 a0 b1 m7 first10 second11 x58 x59 b5_0 k3
noncomputable def f5 (k3 : (List Df) → (List Df) → (List (Int × Int)) → (List Bool) → (List Bool) → Int → Int → Int → R) (a0 : List Df) (b1 : List Df) (m7 : List (Int × Int)) (first10 : List Bool) (second11 : List Bool) (x58 : Int) (x59 : Int) (b5_0 : Int) (b13 : Int × Int) : R := sh5 a0 b1 m7 first10 second11 x58 x59 b5_0 b13 (f4 k3)
noncomputable def f3 : Nat → (List Df) → (List Df) → (List (Int × Int)) → (List Bool) → (List Bool) → Int → Int → Int → R
  | 0 => fun _ _ _ _ _ _ _ _ => none
  | n + 1 => fun a0 b1 m7 first10 second11 x58 x59 b5_0 => sh3 a0 b1 m7 first10 second11 x58 x59 b5_0 f2 (f5 (f3 n))
noncomputable def f1 (a0 : List Df) (b1 : List Df) (b5_0 : Int) : R := sh1 a0 b1 b5_0 (f3 100000)
noncomputable def f0 (a : List Df) (b : List Df) (t : Int) : R := sh0 a b t f1
theorem T6 (a0 : List Df) : (hid ct6) (fr6 a0) = f6 a0 := by
  refine (congrFun (hid_eq _) _).trans <| (P6 a0).trans ?_
  show _ = sh6 a0
  rfl
theorem T8 (KL7 : Kont U El) (k7 : (List Df) → (List Df) → (List Bool) → (List Bool) → (List Df) → Int → Int → Int → R) (h7 : ∀ a0 b1 first10 second11 x139 x140 x141 b5_0, KL7 (fr7 a0 b1 first10 second11 x139 x140 x141 b5_0) = k7 a0 b1 first10 second11 x139 x140 x141 b5_0) (a0 : List Df) (b1 : List Df) (first10 : List Bool) (second11 : List Bool) (x139 : List Df) (x140 : Int) (x141 : Int) (b5_0 : Int) : (hid (ct8 (hid ct6) KL7)) (fr8 a0 b1 first10 second11 x139 x140 x141 b5_0) = f8 k7 a0 b1 first10 second11 x139 x140 x141 b5_0 := by
  refine (congrFun (hid_eq _) _).trans <| (P8 a0 b1 first10 second11 x139 x140 x141 b5_0 (hid ct6) KL7).trans ?_
  show _ = sh8 a0 b1 first10 second11 x139 x140 x141 b5_0 k7
  simp only [h7]
theorem T10 (KL7 : Kont U El) (KL9 : Kont U El) (k7 : (List Df) → (List Df) → (List Bool) → (List Bool) → (List Df) → Int → Int → Int → R) (k9 : (List Df) → (List Df) → (List Bool) → (List Bool) → Int → (List Df) → Int → Int → (List Df) → Int → Int → Int → Df → R) (h7 : ∀ a0 b1 first10 second11 x139 x140 x141 b5_0, KL7 (fr7 a0 b1 first10 second11 x139 x140 x141 b5_0) = k7 a0 b1 first10 second11 x139 x140 x141 b5_0) (h9 : ∀ a0 b1 first10 second11 i14 x139 x140 x141 x146 x147 x148 b5_0 b15, KL9 (fr9 a0 b1 first10 second11 i14 x139 x140 x141 x146 x147 x148 b5_0 b15) = k9 a0 b1 first10 second11 i14 x139 x140 x141 x146 x147 x148 b5_0 b15) (a0 : List Df) (b1 : List Df) (first10 : List Bool) (second11 : List Bool) (i14 : Int) (x139 : List Df) (x140 : Int) (x141 : Int) (x146 : List Df) (x147 : Int) (x148 : Int) (b5_0 : Int) (b15 : Df) : (hid (ct10 (hid ct6) (hid (ct8 (hid ct6) KL7)) KL9)) (fr10 a0 b1 first10 second11 i14 x139 x140 x141 x146 x147 x148 b5_0 b15) = f10 k7 k9 a0 b1 first10 second11 i14 x139 x140 x141 x146 x147 x148 b5_0 b15 := by
  refine (congrFun (hid_eq _) _).trans <| (P10 a0 b1 first10 second11 i14 x139 x140 x141 x146 x147 x148 b5_0 b15 (hid ct6) (hid (ct8 (hid ct6) KL7)) KL9).trans ?_
  show _ = sh10 a0 b1 first10 second11 i14 x139 x140 x141 x146 x147 x148 b5_0 b15 k9
  simp only [h9]
theorem T9 (KL7 : Kont U El) (k7 : (List Df) → (List Df) → (List Bool) → (List Bool) → (List Df) → Int → Int → Int → R) (h7 : ∀ a0 b1 first10 second11 x139 x140 x141 b5_0, KL7 (fr7 a0 b1 first10 second11 x139 x140 x141 b5_0) = k7 a0 b1 first10 second11 x139 x140 x141 b5_0) : ∀ (n : Nat), ∀ a0 b1 first10 second11 i14 x139 x140 x141 x146 x147 x148 b5_0 b15, it9 (hid ct6) (hid (ct8 (hid ct6) KL7)) n (fr9 a0 b1 first10 second11 i14 x139 x140 x141 x146 x147 x148 b5_0 b15) = f9 k7 n a0 b1 first10 second11 i14 x139 x140 x141 x146 x147 x148 b5_0 b15 := by
  intro n
  induction n with
  | zero => intros; rfl
  | succ n ih =>
    intro a0 b1 first10 second11 i14 x139 x140 x141 x146 x147 x148 b5_0 b15
    refine (P9 a0 b1 first10 second11 i14 x139 x140 x141 x146 x147 x148 b5_0 b15 (hid ct6) (hid (ct8 (hid ct6) KL7)) (it9 (hid ct6) (hid (ct8 (hid ct6) KL7)) n)).trans ?_
    show _ = sh9 a0 b1 first10 second11 i14 x139 x140 x141 x146 x147 x148 b5_0 b15 (f8 k7) (f10 k7 (f9 k7 n))
    simp only [T8 KL7 k7 h7, T10 KL7 (it9 (hid ct6) (hid (ct8 (hid ct6) KL7)) n) k7 (f9 k7 n) h7 ih]
theorem H9 (KL7 : Kont U El) (k7 : (List Df) → (List Df) → (List Bool) → (List Bool) → (List Df) → Int → Int → Int → R) (h7 : ∀ a0 b1 first10 second11 x139 x140 x141 b5_0, KL7 (fr7 a0 b1 first10 second11 x139 x140 x141 b5_0) = k7 a0 b1 first10 second11 x139 x140 x141 b5_0) (a0 : List Df) (b1 : List Df) (first10 : List Bool) (second11 : List Bool) (i14 : Int) (x139 : List Df) (x140 : Int) (x141 : Int) (x146 : List Df) (x147 : Int) (x148 : Int) (b5_0 : Int) (b15 : Df) : hid (it9 (hid ct6) (hid (ct8 (hid ct6) KL7)) 100000) (fr9 a0 b1 first10 second11 i14 x139 x140 x141 x146 x147 x148 b5_0 b15) = f9 k7 100000 a0 b1 first10 second11 i14 x139 x140 x141 x146 x147 x148 b5_0 b15 := (congrFun (hid_eq _) _).trans (T9 KL7 k7 h7 100000 a0 b1 first10 second11 i14 x139 x140 x141 x146 x147 x148 b5_0 b15)
theorem T7 : ∀ (n : Nat), ∀ a0 b1 first10 second11 x139 x140 x141 b5_0, it7 (hid ct6) n (fr7 a0 b1 first10 second11 x139 x140 x141 b5_0) = f7 n a0 b1 first10 second11 x139 x140 x141 b5_0 := by
  intro n
  induction n with
  | zero => intros; rfl
  | succ n ih =>
    intro a0 b1 first10 second11 x139 x140 x141 b5_0
    refine (P7 a0 b1 first10 second11 x139 x140 x141 b5_0 (hid ct6) (it7 (hid ct6) n)).trans ?_
    show _ = sh7 a0 b1 first10 second11 x139 x140 x141 b5_0 f6 (f9 (f7 n) 100000)
    simp only [T6, H9 (it7 (hid ct6) n) (f7 n) ih]
theorem H7 (a0 : List Df) (b1 : List Df) (first10 : List Bool) (second11 : List Bool) (x139 : List Df) (x140 : Int) (x141 : Int) (b5_0 : Int) : hid (it7 (hid ct6) 100000) (fr7 a0 b1 first10 second11 x139 x140 x141 b5_0) = f7 100000 a0 b1 first10 second11 x139 x140 x141 b5_0 := (congrFun (hid_eq _) _).trans (T7 100000 a0 b1 first10 second11 x139 x140 x141 b5_0)
theorem T2 (a0 : List Df) (b1 : List Df) (first10 : List Bool) (second11 : List Bool) (b5_0 : Int) : (hid ct2) (fr2 a0 b1 first10 second11 b5_0) = f2 a0 b1 first10 second11 b5_0 := by
  refine (congrFun (hid_eq _) _).trans <| (P2 a0 b1 first10 second11 b5_0).trans ?_
  show _ = sh2 a0 b1 first10 second11 b5_0 (f7 100000)
  simp only [H7]
theorem T4 (KL3 : Kont U El) (k3 : (List Df) → (List Df) → (List (Int × Int)) → (List Bool) → (List Bool) → Int → Int → Int → R) (h3 : ∀ a0 b1 m7 first10 second11 x58 x59 b5_0, KL3 (fr3 a0 b1 m7 first10 second11 x58 x59 b5_0) = k3 a0 b1 m7 first10 second11 x58 x59 b5_0) (a0 : List Df) (b1 : List Df) (m7 : List (Int × Int)) (first10 : List Bool) (second11 : List Bool) (x58 : Int) (x59 : Int) (b5_0 : Int) : (hid (ct4 (hid ct2) KL3)) (fr4 a0 b1 m7 first10 second11 x58 x59 b5_0) = f4 k3 a0 b1 m7 first10 second11 x58 x59 b5_0 := by
  refine (congrFun (hid_eq _) _).trans <| (P4 a0 b1 m7 first10 second11 x58 x59 b5_0 (hid ct2) KL3).trans ?_
  show _ = sh4 a0 b1 m7 first10 second11 x58 x59 b5_0 k3
  simp only [h3]
theorem T5 (KL3 : Kont U El) (k3 : (List Df) → (List Df) → (List (Int × Int)) → (List Bool) → (List Bool) → Int → Int → Int → R) (h3 : ∀ a0 b1 m7 first10 second11 x58 x59 b5_0, KL3 (fr3 a0 b1 m7 first10 second11 x58 x59 b5_0) = k3 a0 b1 m7 first10 second11 x58 x59 b5_0) (a0 : List Df) (b1 : List Df) (m7 : List (Int × Int)) (first10 : List Bool) (second11 : List Bool) (x58 : Int) (x59 : Int) (b5_0 : Int) (b13 : Int × Int) : (hid (ct5 (hid ct2) (hid (ct4 (hid ct2) KL3)))) (fr5 a0 b1 m7 first10 second11 x58 x59 b5_0 b13) = f5 k3 a0 b1 m7 first10 second11 x58 x59 b5_0 b13 := by
  refine (congrFun (hid_eq _) _).trans <| (P5 a0 b1 m7 first10 second11 x58 x59 b5_0 b13 (hid ct2) (hid (ct4 (hid ct2) KL3))).trans ?_
  show _ = sh5 a0 b1 m7 first10 second11 x58 x59 b5_0 b13 (f4 k3)
  simp only [T4 KL3 k3 h3]
theorem T3 : ∀ (n : Nat), ∀ a0 b1 m7 first10 second11 x58 x59 b5_0, it3 (hid ct2) n (fr3 a0 b1 m7 first10 second11 x58 x59 b5_0) = f3 n a0 b1 m7 first10 second11 x58 x59 b5_0 := by
  intro n
  induction n with
  | zero => intros; rfl
  | succ n ih =>
    intro a0 b1 m7 first10 second11 x58 x59 b5_0
    refine (P3 a0 b1 m7 first10 second11 x58 x59 b5_0 (hid ct2) (it3 (hid ct2) n)).trans ?_
    show _ = sh3 a0 b1 m7 first10 second11 x58 x59 b5_0 f2 (f5 (f3 n))
    simp only [T2, T5 (it3 (hid ct2) n) (f3 n) ih]
theorem H3 (a0 : List Df) (b1 : List Df) (m7 : List (Int × Int)) (first10 : List Bool) (second11 : List Bool) (x58 : Int) (x59 : Int) (b5_0 : Int) : hid (it3 (hid ct2) 100000) (fr3 a0 b1 m7 first10 second11 x58 x59 b5_0) = f3 100000 a0 b1 m7 first10 second11 x58 x59 b5_0 := (congrFun (hid_eq _) _).trans (T3 100000 a0 b1 m7 first10 second11 x58 x59 b5_0)
theorem T1 (a0 : List Df) (b1 : List Df) (b5_0 : Int) : (hid ct1) (fr1 a0 b1 b5_0) = f1 a0 b1 b5_0 := by
  refine (congrFun (hid_eq _) _).trans <| (P1 a0 b1 b5_0).trans ?_
  show _ = sh1 a0 b1 b5_0 (f3 100000)
  simp only [H3]
theorem T0 (a : List Df) (b : List Df) (t : Int) : exec X bd (.seq none .d (.seq none .d (.seq (some nm1) .d (.seq none .d (.seq none .d (.seq none .d (.seq none .d (.seq (some nm2) (.seq none .d (.block (.loop nm3 (.seq none .d (.seq none .d (.seq (some nm4) (.block (.seq none .d (.seq (some nm5) .d (.region [(7, 10), (9, 11)])))) .d)))))) (.seq (some nm6) (.seq none .d (.block (.loop nm7 (.seq none .d (.seq none .d (.seq (some nm8) (.block (.seq none .d (.seq none .d (.block (.loop nm9 (.seq none .d (.seq none .d (.seq (some nm10) .d .d)))))))) .d)))))) .d))))))))) (fr0 a b t) RR (fun _ _ => none) RR = f0 a b t := by
  refine (P0 a b t).trans ?_
  show _ = sh0 a b t f1
  simp only [T1]
theorem run (a : List Df) (b : List Df) (t : Int) : runFn X bd (.seq none .d (.seq none .d (.seq (some nm1) .d (.seq none .d (.seq none .d (.seq none .d (.seq none .d (.seq (some nm2) (.seq none .d (.block (.loop nm3 (.seq none .d (.seq none .d (.seq (some nm4) (.block (.seq none .d (.seq (some nm5) .d (.region [(7, 10), (9, 11)])))) .d)))))) (.seq (some nm6) (.seq none .d (.block (.loop nm7 (.seq none .d (.seq none .d (.seq (some nm8) (.block (.seq none .d (.seq none .d (.block (.loop nm9 (.seq none .d (.seq none .d (.seq (some nm10) .d .d)))))))) .d)))))) .d))))))))) nmR [6] [] [(.lst .df a), (.lst .df b), (.int .i64 t)] = f0 a b t := T0 a b t
theorem last (a : List Df) (ha : validB 16777216 a = true) : f6 a = some (.bool true, []) := by
  unfold f6 sh6
  have e1 : matchE 0 a a = 0 := by unfold matchE; rw [ha]; rfl
  have e2 : matchL 0 a a = mrun 0 a 0 a (List.replicate a.length false) [] := by unfold matchL; rw [ha]; rfl
  have e3 : (mrun 0 a 0 a (List.replicate a.length false) []).length = a.length := by
    have := run_self a a.length 0 (List.replicate a.length false) (by omega) (by simp) (fun m h hm => by omega) (fun m h hm => by simp)
    simpa using this
  rw [e1, e2, e3]
  show some (AV.bool ((Int.ofNat a.length) == (Int.ofNat a.length)), []) = _
  rw [beq_self_eq_true]
theorem inner (a b : List Df) (t : Int) (ha : okW a = true) (hb : okW b = true) (first second : List Bool) (h1 : first.length = a.length) (h2 : second.length = b.length) (i : Nat) (hi : i < a.length)
    (hcl : ∀ k (h : k < b.length), first[i] = false → second[k] = false → closeB t a[i] b[k] = false) (k7 : (List Df) → (List Df) → (List Bool) → (List Bool) → (List Df) → Int → Int → Int → R) : ∀ (n k : Nat), b.length < n + k → k ≤ b.length →
    f9 k7 n a b first second (i : Int) a (Int.ofNat a.length) (i : Int) b (Int.ofNat b.length) (k : Int) t a[i] = k7 a b first second a (Int.ofNat a.length) ((i + 1 : Nat) : Int) t := by
  have hla := okW_len ha
  have hl := okW_len hb
  intro n
  induction n with
  | zero => intro k h1 h2; omega
  | succ n ih =>
    intro k g1 g2
    show sh9 a b first second i a (Int.ofNat a.length) i b (Int.ofNat b.length) k t a[i] (f8 k7) (f10 k7 (f9 k7 n)) = _
    unfold sh9
    by_cases hk : k < b.length
    · have hk' : k < second.length := by omega
      have hi' : i < first.length := by omega
      rw [iltT (by simp; omega), inbT hk, inbT hi', inbT hk', toNat_nat, toNat_nat, nltT hi', nltT hk', getDB hi', getDB hk', getD_lt hk, okW_okA ha hi, okW_okA hb hk]
      simp only [f10, sh10, wrapS k (show k ≤ 1000000 by omega)]
      have hn := ih (k + 1) (by omega) (by omega)
      cases hF : first[i]
      · cases hS : second[k]
        · rw [hcl k hk hF hS]
          exact hn
        · exact hn
      · exact hn
    · have : k = b.length := by omega
      subst this
      rw [iltF (by simp)]
      simp only [f8, sh8, wrapS i (show i ≤ 1000000 by omega)]
      rfl
theorem outer (a b : List Df) (t : Int) (hv : validB 16777216 a = true) (ha : okW a = true) (hb : okW b = true) (first second : List Bool) (h1 : first.length = a.length) (h2 : second.length = b.length)
    (hcl : ∀ i k (hi : i < a.length) (h : k < b.length), first[i] = false → second[k] = false → closeB t a[i] b[k] = false) : ∀ (n i : Nat), a.length < n + i → i ≤ a.length →
    f7 n a b first second a (Int.ofNat a.length) (i : Int) t = some (.bool true, []) := by
  have hla := okW_len ha
  have hl := okW_len hb
  intro n
  induction n with
  | zero => intro i h1 h2; omega
  | succ n ih =>
    intro i g1 g2
    show sh7 a b first second a (Int.ofNat a.length) i t f6 (f9 (f7 n) 100000) = _
    unfold sh7
    by_cases hi : i < a.length
    · rw [iltT (by simp; omega), inbT hi, toNat_nat, getD_lt hi]
      refine (inner a b t ha hb first second h1 h2 i hi (fun k h => hcl i k hi h) (f7 n) 100000 0 (by omega) (by omega)).trans ?_
      exact ih (i + 1) (by omega) (by omega)
    · have : i = a.length := by omega
      subst this
      rw [iltF (by simp)]
      exact last a hv
theorem pairs (a b : List Df) (t : Int) (ha : okW a = true) (hb : okW b = true) (m : List (Int × Int)) (hm : m.length ≤ 1000) : ∀ (n j : Nat) (prev : Option Int) (first second : List Bool), m.length < n + j → j ≤ m.length → first.length = a.length → second.length = b.length →
    (∀ h : 0 < j, ∃ h2 : j - 1 < m.length, prev = some m[j - 1].1) → okM a b t prev first second (m.drop j) →
    f3 n a b m first second (Int.ofNat m.length) (j : Int) t = f2 a b (mkF first (m.drop j)) (mkS second (m.drop j)) t := by
  have hla := okW_len ha
  have hl := okW_len hb
  intro n
  induction n with
  | zero => intro j prev first second h1 h2; omega
  | succ n ih =>
    intro j prev first second h1 h2 g1 g2 hp hok
    show sh3 a b m first second (Int.ofNat m.length) j t f2 (f5 (f3 n)) = _
    unfold sh3
    by_cases hj : j < m.length
    · rw [drop_lt hj] at hok ⊢
      obtain ⟨i, k, e, c1, c2, c3, c4, c5, c6, c7, c8, c9⟩ := hok
      rw [e]
      simp only [mkF, mkS]
      rw [iltT (by simp; omega), inbT hj, toNat_nat, nltT hj, getD_lt hj, e]
      simp only [toNat_nat]
      rw [iltF (show ¬ (i : Int) < 0 by omega), ileF (show ¬ Int.ofNat a.length ≤ (i : Int) by simp; omega), iltF (show ¬ (k : Int) < 0 by omega), ileF (show ¬ Int.ofNat b.length ≤ (k : Int) by simp; omega),
        inbT c3, nltT c3, getDB c3, c5, inbT c4, nltT c4, getDB c4, c6, inbT c1, inbT c2, getD_lt c1, getD_lt c2, okW_okA ha c1, okW_okA hb c2, c7]
      simp only [condB, chk, cond_true, cond_false, Bool.and_self, Bool.not_true]
      have hnext : f5 (f3 n) a b m first second (Int.ofNat m.length) (j : Int) t ((i : Int), (k : Int)) = f2 a b (mkF (first.set i true) (m.drop (j + 1))) (mkS (second.set k true) (m.drop (j + 1))) t := by
        unfold f5 sh5 f4 sh4
        simp only [toNat_nat]
        rw [inbT c3, nltT c3, inbT c4, nltT c4, wrapS j (show j ≤ 1000000 by omega)]
        simp only [chk, cond_true, Bool.and_self]
        refine ih (j + 1) (some (i : Int)) (first.set i true) (second.set k true) (by omega) (by omega) (by simpa using g1) (by simpa using g2) (fun _ => ⟨by omega, ?_⟩) c9
        have : m[j + 1 - 1] = m[j] := by congr 1
        rw [this, e]
      by_cases hj0 : 0 < j
      · obtain ⟨h3, h4⟩ := hp hj0
        have hlt := c8 _ h4
        rw [iltT (show (0 : Int) < (j : Int) by omega), wrapI (x := (j : Int) - 1) (by omega) (by omega), show ((j : Int) - 1) = ((j - 1 : Nat) : Int) by omega, inbT h3, toNat_nat, nltT h3, getD_lt h3, ileF (show ¬ (i : Int) ≤ m[j - 1].1 by omega)]
        exact hnext
      · rw [iltF (show ¬ (0 : Int) < (j : Int) by omega)]
        exact hnext
    · have : j = m.length := by omega
      subst this
      rw [iltF (by simp), List.drop_length]
      rfl
theorem f0_eq (a b : List Df) (t : Int) : f0 a b t = some (.bool true, []) := by
  unfold f0 sh0
  simp only [Bool.not_true, condB, cond_false]
  cases fewB a
  · rfl
  cases fewB b
  · rfl
  simp only [Bool.not_true, cond_false]
  show f1 a b t = _
  unfold f1 sh1
  cases hva : validB 16777216 a
  · have e1 : matchL t a b = [] := by unfold matchL; rw [hva]; rfl
    have e2 : matchE t a b = 1 := by unfold matchE; rw [hva]; rfl
    rw [e1, e2]; rfl
  cases hvb : validB 16777216 b
  · have e1 : matchL t a b = [] := by unfold matchL; rw [hva, hvb]; rfl
    have e2 : matchE t a b = 1 := by unfold matchE; rw [hva, hvb]; rfl
    rw [e1, e2]; rfl
  by_cases h1 : t < 0
  · have e1 : matchL t a b = [] := by unfold matchL; rw [hva, hvb, ileF (show ¬ 0 ≤ t by omega)]; rfl
    have e2 : matchE t a b = 2 := by unfold matchE; rw [hva, hvb, ileF (show ¬ 0 ≤ t by omega)]; rfl
    rw [e1, e2]; rfl
  by_cases h2 : 16777216 < t
  · have e1 : matchL t a b = [] := by unfold matchL; rw [hva, hvb, ileT (show 0 ≤ t by omega), ileF (show ¬ t ≤ 16777216 by omega)]; rfl
    have e2 : matchE t a b = 2 := by unfold matchE; rw [hva, hvb, ileT (show 0 ≤ t by omega), ileF (show ¬ t ≤ 16777216 by omega)]; rfl
    rw [e1, e2]; rfl
  have e1 : matchL t a b = mrun t b 0 a (List.replicate b.length false) [] := by unfold matchL; rw [hva, hvb, ileT (show 0 ≤ t by omega), ileT (show t ≤ 16777216 by omega)]; rfl
  have e2 : matchE t a b = 0 := by unfold matchE; rw [hva, hvb, ileT (show 0 ≤ t by omega), ileT (show t ≤ 16777216 by omega)]; rfl
  have ha := (valid_okW hva).1
  have hb := (valid_okW hvb).1
  have hla := valid_len hva
  have hlb := valid_len hvb
  have hml : (matchL t a b).length ≤ 1000 := by
    rw [e1]
    have : ∀ (r : List Df) (i : Nat) (used : List Bool), (mrun t b i r used []).length ≤ r.length := by
      intro r
      induction r with
      | nil => intro i used; simp [mrun]
      | cons x r ih =>
        intro i used
        simp only [mrun]
        split
        · rw [mrun_app]
          have := ih (i + 1) (used.set ‹Nat› true)
          simp only [List.nil_append, List.length_append, List.length_cons, List.length_nil]
          omega
        · have := ih (i + 1) used
          simp only [List.length_cons]
          omega
    have := this a 0 (List.replicate b.length false)
    omega
  rw [e2, ileT (show (0 : Int) ≤ Int.ofNat a.length by simp), ileT (Int.le_refl _), ileT (show Int.ofNat a.length * 1 ≤ 140737488355328 by simp; omega), ileT (show (0 : Int) ≤ Int.ofNat b.length by simp), ileT (Int.le_refl _), ileT (show Int.ofNat b.length * 1 ≤ 140737488355328 by simp; omega)]
  show f3 100000 a b (matchL t a b) (List.replicate a.length false) (List.replicate b.length false) (Int.ofNat (matchL t a b).length) ((0 : Nat) : Int) t = _
  have hok := run_ok a b t a.length 0 none (List.replicate a.length false) (List.replicate b.length false) (by omega) (by simp) (by simp) (by simp) (by simp)
  have hleft := run_left a b t a.length 0 (List.replicate a.length false) (List.replicate b.length false) (by omega) (by simp) (by simp)
  rw [List.drop_zero, ← e1] at hok hleft
  refine (pairs a b t ha hb (matchL t a b) hml 100000 0 none _ _ (by omega) (by omega) (by simp) (by simp) (fun h => absurd h (by omega)) hok).trans ?_
  rw [List.drop_zero]
  unfold f2 sh2
  refine outer a b t hva ha hb _ _ (by rw [mkF_len]; simp) (by rw [mkS_len]; simp) (fun i k hi hk h3 h4 => ?_) 100000 0 (by omega) (by omega)
  exact hleft i k hi hk (Nat.zero_le _) (by rw [List.getElem?_eq_getElem (by rw [mkF_len]; simpa using hi), h3]) (by rw [List.getElem?_eq_getElem (by rw [mkS_len]; simpa using hk), h4])
theorem ok : CtxOk Tryd.prog X := ctxOk tab (by
  intro p hp
  simp only [List.mem_cons, List.not_mem_nil, or_false] at hp
  rcases hp with rfl | rfl | rfl | rfl
  · exact awake.spOk
  · exact few.spOk
  · exact matchF.spOk
  · exact closeF.spOk)
theorem okM : MOk Tryd.prog X := fun g sp h => by cases h
theorem spec (a : List Df) (b : List Df) (t : Int) : CallSpec Tryd.prog E 5 [(.lst .df a), (.lst .df b), (.int .i64 t)] (.bool (true)) [] :=
  runFn_sound ok okM Tryd.call5 Tryd.func5 (by kernel_rfl) (by kernel_rfl) (by kernel_rfl) (by show 3 ≤ 188; decide) (by decide) (by rfl) ((run a b t).trans (f0_eq a b t))
noncomputable def sp : Sp U El := fun args k => match args with
  | [.lst .df a, .lst .df b, .int .i64 t] => k (.bool (true)) []
  | _ => none
theorem spOk : SpOk Tryd.prog E 5 sp where
  det := fun vs => by
    unfold sp
    split
    · exact ⟨some (_, _), fun _ => rfl⟩
    · exact ⟨none, fun _ => rfl⟩
  ok := fun vs k r h => by
    unfold sp at h
    split at h
    · exact ⟨_, _, spec _ _ _, h⟩
    · cases h
end lawMatched
end Go.Proofs.YtnhmhcobpbilhaaDoor
