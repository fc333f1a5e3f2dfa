/- A list in another order: the same answers. -/
import Derived.Test.YtkeplmpcijigaaaVYr
namespace Go.Proofs.Ytkeplmpcijigaaa
set_option linter.unusedSectionVars false
set_option linter.unusedSimpArgs false
set_option linter.unusedVariables false
set_option maxRecDepth 100000

/-- validity, said without an order -/
theorem validL_iff : ∀ (l pre : List Msg), validL pre l = true ↔ (∀ m, m ∈ l → rightB m = true) ∧ (∀ m, m ∈ l → hasB pre m.nd m.no = false) ∧ l.Pairwise (fun a b => ¬ (a.nd = b.nd ∧ a.no = b.no)) := by
  intro l
  induction l with
  | nil => intro pre; simp [validL]
  | cons x l ih =>
    intro pre
    simp only [validL, Bool.and_eq_true, Bool.not_eq_true', ih, List.pairwise_cons, List.mem_cons, forall_eq_or_imp]
    have hs : ∀ m : Msg, hasB (pre ++ [x]) m.nd m.no = false ↔ hasB pre m.nd m.no = false ∧ ¬ (x.nd = m.nd ∧ x.no = m.no) := fun m => by
      unfold hasB
      rw [List.any_append, Bool.or_eq_false_iff]
      simp
    constructor
    · rintro ⟨h1, h2, h3, h4, h5⟩
      exact ⟨⟨h1, h3⟩, ⟨h2, fun m hm => ((hs m).1 (h4 m hm)).1⟩, fun m hm => ((hs m).1 (h4 m hm)).2, h5⟩
    · rintro ⟨⟨h1, h3⟩, ⟨h2, h4⟩, h5, h6⟩
      exact ⟨h1, h2, h3, fun m hm => (hs m).2 ⟨h4 m hm, h5 m hm⟩, h6⟩
theorem validB_perm {l l' : List Msg} (h : l.Perm l') : validB l' = validB l := by
  have key : ∀ {a b : List Msg}, a.Perm b → validB a = true → validB b = true := fun {a b} h hv => by
    unfold validB at hv ⊢
    rw [Bool.and_eq_true] at hv ⊢
    obtain ⟨h1, h2, h3⟩ := (validL_iff a []).1 hv.2
    refine ⟨by rw [← h.length_eq]; exact hv.1, (validL_iff b []).2 ⟨fun m hm => h1 m (h.mem_iff.2 hm), fun m hm => h2 m (h.mem_iff.2 hm), (h.pairwise_iff (fun {x y} hxy e => hxy ⟨e.1.symm, e.2.symm⟩)).1 h3⟩⟩
  cases hv : validB l
  · cases hv' : validB l'
    · rfl
    · have := key h.symm hv'
      rw [hv] at this; cases this
  · exact key h hv
theorem sortM_permut {l l' : List Msg} (h : l.Perm l') (hk : keysB l = true) : sortM l' = sortM l :=
  sortM_eq (keysB_sub hk fun y hy => h.mem_iff.2 hy) ((sortM_perm l).trans h) (sortM_sorted l)
theorem ofL_perm {l l' : List Msg} (h : l.Perm l') (hv : validB l = true) (node : List UInt8) : ofL l' node = ofL l node := by
  unfold ofL
  rw [sortM_permut h (valid_keys hv).1]
theorem same_perm {l l' : List Msg} (h : l.Perm l') (hv : validB l = true) (node : List UInt8) (from_ step n : Int) : serE l' node from_ step n = serE l node from_ step n ∧ serL l' node from_ step n = serL l node from_ step n ∧ misE l' node = misE l node ∧ misL l' node = misL l node := by
  have h1 := validB_perm h
  have h2 := ofL_perm h hv node
  have e1 : serE l' node from_ step n = serE l node from_ step n := by unfold serE; rw [h1]
  have e2 : nosL l' node = nosL l node := by unfold nosL; rw [h2]
  have e3 : misE l' node = misE l node := by unfold misE; rw [h1, e2]
  refine ⟨e1, ?_, e3, ?_⟩
  · unfold serL; rw [e1, h2]
  · unfold misL; rw [e3, e2]
/-- the level at an instant, said by a run through the list -/
noncomputable def lvT (t : Int) : Int → List Msg → Int
  | d, [] => d
  | d, m :: l => bif ile m.at_ t then lvT t m.lv l else d
theorem lvT_eq (t : Int) : ∀ (ss : List Msg) (d : Int), lvT t d ss = bif Nat.beq (cntZ t ss) 0 then d else (List.getD ss (cntZ t ss - 1) d_msg).lv := by
  intro ss
  induction ss with
  | nil => intro d; rfl
  | cons m ss ih =>
    intro d
    unfold lvT cntZ
    cases hb : ile m.at_ t
    · rfl
    · simp only [cond_true]
      rw [ih m.lv]
      cases hc : cntZ t ss with
      | zero => rfl
      | succ k => rfl
theorem lvOf_eq (t : Int) (ss : List Msg) : lvOf ss (cntZ t ss) = lvT t 4194305 ss := (lvT_eq t ss _).symm
theorem lvT_before {t : Int} {m : Msg} (ht : t < m.at_) : ∀ (ss : List Msg) (d : Int), lvT t d (withL m ss) = lvT t d ss := by
  intro ss
  induction ss with
  | nil => intro d; simp [withL, lvT, ileF (show ¬ m.at_ ≤ t by omega)]
  | cons x ss ih =>
    intro d
    simp only [withL]
    cases hb : beforeB x m
    · have h1 : ¬ beforeB x m = true := by rw [hb]; simp
      rw [before_iff] at h1
      simp [lvT, ileF (show ¬ m.at_ ≤ t by omega), ileF (show ¬ x.at_ ≤ t by omega)]
    · simp only [cond_true, lvT, ih]
theorem lvT_at {t : Int} {m : Msg} (ht : m.at_ = t) : ∀ (ss : List Msg) (d : Int), (∀ x, x ∈ ss → x.at_ ≤ t → beforeB x m = true) → lvT t d (withL m ss) = m.lv := by
  intro ss
  induction ss with
  | nil => intro d _; simp [withL, lvT, ileT (show m.at_ ≤ t by omega)]
  | cons x ss ih =>
    intro d h
    simp only [withL]
    cases hb : beforeB x m
    · have hx : ¬ x.at_ ≤ t := fun h1 => by rw [h x (by simp) h1] at hb; cases hb
      simp [lvT, ileT (show m.at_ ≤ t by omega), ileF hx]
    · have h1 := (before_iff x m).1 hb
      simp only [cond_true, lvT]
      rw [ileT (show x.at_ ≤ t by omega), cond_true]
      exact ih x.lv fun y hy => h y (by simp [hy])
theorem ofL_snoc {l : List Msg} {m : Msg} {node : List UInt8} (hk : keysB (l ++ [m]) = true) (hm : m.nd = node) : ofL (l ++ [m]) node = withL m (ofL l node) := by
  have hk1 : keysB l = true := keysB_sub hk fun y hy => List.mem_append_left _ hy
  unfold ofL
  rw [← sortM_filter hk, ← sortM_filter hk1, List.filter_append, List.filter_cons, List.filter_nil, if_pos (by simp [hm])]
  exact sortM_snoc (keysB_sub hk fun y hy => by
    rcases List.mem_append.1 hy with h | h
    · exact List.mem_append_left _ (List.mem_filter.1 h).1
    · exact List.mem_append_right _ h)
end Go.Proofs.Ytkeplmpcijigaaa
