/- The pure law of feeds: what the code's feed holds beside what the document's holds. -/
import Derived.Test.YtkeplmpcijigaaaVD
namespace Go.Proofs.Ytkeplmpcijigaaa
set_option linter.unusedSectionVars false
set_option linter.unusedSimpArgs false
set_option linter.unusedVariables false
set_option maxRecDepth 100000
open Go.Sort

theorem bef_ntrans {x y z : Msg} (h1 : beforeB x y = false) (h2 : beforeB y z = false) : beforeB x z = false := by
  have h := swoM.ntrans x y z
  rw [ltOf_before] at h
  exact h h1 h2
theorem bef_asymm {x y : Msg} (h : beforeB x y = true) : beforeB y x = false := by
  cases h2 : beforeB y x
  · rfl
  · have := before_trans h h2
    rw [before_irrefl] at this; cases this
abbrev Sorted (l : List Msg) : Prop := l.Pairwise fun a b => beforeB b a = false
theorem sortM_perm (xs : List Msg) : (sortM xs).Perm xs := List.mergeSort_perm _ _
theorem sortM_sorted (xs : List Msg) : Sorted (sortM xs) := by
  have h := List.pairwise_mergeSort (le := fun x y => !beforeB y x) (fun a b c h1 h2 => by
    simp only [Bool.not_eq_true'] at h1 h2 ⊢
    exact bef_ntrans h2 h1) (fun a b => by
    cases h : beforeB b a
    · rfl
    · simp [bef_asymm h]) xs
  exact h.imp fun h => by simpa using h
theorem sortM_eq {xs ys : List Msg} (hk : keysB xs = true) (hp : ys.Perm xs) (hs : Sorted ys) : sortM xs = ys := by
  refine List.Perm.eq_of_pairwise (le := fun a b => beforeB b a = false) (fun a b ha hb h1 h2 => ?_) (sortM_sorted xs) hs ((sortM_perm xs).trans hp.symm)
  exact keysB_iff.1 hk a ((sortM_perm xs).mem_iff.1 ha) b (hp.mem_iff.1 hb) h2 h1
theorem withL_perm (m : Msg) : ∀ l, (withL m l).Perm (m :: l) := by
  intro l
  induction l with
  | nil => exact List.Perm.refl _
  | cons x l ih =>
    simp only [withL]
    cases beforeB x m
    · exact List.Perm.refl _
    · exact (ih.cons x).trans (List.Perm.swap m x l)
theorem withL_sorted (m : Msg) : ∀ l, Sorted l → Sorted (withL m l) := by
  intro l
  induction l with
  | nil => intro _; exact List.pairwise_singleton _ _
  | cons x l ih =>
    intro h
    obtain ⟨h1, h2⟩ := List.pairwise_cons.1 h
    simp only [withL]
    cases hb : beforeB x m
    · refine List.pairwise_cons.2 ⟨fun y hy => ?_, h⟩
      rcases List.mem_cons.1 hy with rfl | hy
      · exact hb
      · exact bef_ntrans (h1 y hy) hb
    · refine List.pairwise_cons.2 ⟨fun y hy => ?_, ih h2⟩
      rcases List.mem_cons.1 ((withL_perm m l).mem_iff.1 hy) with rfl | hy
      · exact bef_asymm hb
      · exact h1 y hy
theorem sortM_snoc {xs : List Msg} {m : Msg} (hk : keysB (xs ++ [m]) = true) : sortM (xs ++ [m]) = withL m (sortM xs) :=
  sortM_eq hk ((withL_perm m _).trans (((sortM_perm xs).cons m).trans (List.perm_append_singleton m xs).symm)) (withL_sorted m _ (sortM_sorted xs))
theorem sortM_filter {xs : List Msg} (hk : keysB xs = true) (p : Msg → Bool) : sortM (xs.filter p) = (sortM xs).filter p :=
  sortM_eq (keysB_sub hk fun y hy => (List.mem_filter.1 hy).1) ((sortM_perm xs).filter p) ((sortM_sorted xs).filter p)
/-- in order: those before an instant stand first -/
theorem sorted_split (z : Int) : ∀ l : List Msg, Sorted l → l.take (preN z l) = l.filter (fun m => ilt m.at_ z) ∧ l.drop (preN z l) = l.filter (fun m => !(ilt m.at_ z)) := by
  intro l
  induction l with
  | nil => intro _; exact ⟨rfl, rfl⟩
  | cons x l ih =>
    intro h
    obtain ⟨h1, h2⟩ := List.pairwise_cons.1 h
    unfold preN
    cases hb : ilt x.at_ z
    · have hx : ∀ y, y ∈ l → ilt y.at_ z = false := fun y hy => by
        have h3 : ¬ beforeB y x = true := by rw [h1 y hy]; simp
        rw [before_iff] at h3
        have := iltN hb
        exact iltF (by omega)
      have e1 : l.filter (fun m => ilt m.at_ z) = [] := List.filter_eq_nil_iff.2 fun y hy => by rw [hx y hy]; simp
      have e2 : l.filter (fun m => !(ilt m.at_ z)) = l := List.filter_eq_self.2 fun y hy => by rw [hx y hy]; rfl
      simp [hb, e1, e2]
    · obtain ⟨i1, i2⟩ := ih h2
      unfold preN at i1 i2
      simp [hb, i1, i2]

/-- the code's feed beside the document's -/
structure Side (s : FS) (x : RF) : Prop where
  dl : s.dl = x.dl
  d0 : 0 ≤ s.dl
  d1 : s.dl ≤ 68719476736
  mkz : s.mk_ = rmarkZ x
  ls : s.ls = (if x.gt = [] then -68719476736 else (List.getD x.gt (x.gt.length - 1) d_msg).ar)
  rt : ∀ m, m ∈ x.gt → timeB m.ar = true
  got : s.got = x.gt.map fun m => (keyM m, true)
  lt : s.lt = x.lt
  wt : x.wt = sortM s.wt
  sub : ∀ m, m ∈ s.wt → m ∈ x.gt
  keys : keysB s.wt = true
  w1 : s.wt.length ≤ x.gt.length
  l1 : s.lt.length ≤ x.gt.length
  few : x.gt.length ≤ 9000

theorem start {d : Int} (h0 : 0 ≤ d) (h1 : d ≤ 68719476736) : Side ⟨d, -137438953472, -68719476736, [], [], []⟩ ⟨d, [], [], []⟩ :=
  ⟨rfl, h0, h1, rfl, rfl, fun m h => (by cases h), rfl, rfl, (List.mergeSort_nil).symm, fun m h => h, rfl, Nat.le_refl _, Nat.le_refl _, by simp⟩

theorem kq_iff {a b : Key} : kq_key a b = true ↔ a = b := by
  unfold kq_key
  constructor
  · intro h
    simp only [Bool.and_eq_true, beq_iff_eq, and_true] at h
    cases a; cases b
    simp only at h
    rw [h.1, h.2]
  · rintro rfl; simp
theorem got_has (m : Msg) : ∀ l : List Msg, mfind kq_key (l.map fun m => (keyM m, true)) (keyM m) = bif hasB l m.nd m.no then some true else none := by
  intro l
  induction l with
  | nil => rfl
  | cons x l ih =>
    simp only [List.map_cons, mfind, hasB, List.any_cons]
    by_cases h : keyM m = keyM x
    · rw [kq_iff.2 h]
      simp only [keyM, Key.mk.injEq] at h
      rw [h.1, h.2, beq_self_eq_true, beq_self_eq_true]
      rfl
    · have e1 : kq_key (keyM m) (keyM x) = false := by
        cases h2 : kq_key (keyM m) (keyM x)
        · rfl
        · exact absurd (kq_iff.1 h2) h
      have e2 : ((x.nd == m.nd) && (x.no == m.no)) = false := by
        cases h2 : ((x.nd == m.nd) && (x.no == m.no))
        · rfl
        · simp only [Bool.and_eq_true, beq_iff_eq] at h2
          exact absurd (by simp [keyM, h2.1, h2.2]) h
      rw [e1, e2, cond_false, ih]
      rfl
theorem mput_new {K V : Type} (eq : K → K → Bool) : ∀ (l : List (K × V)) (x : K) (v : V), mfind eq l x = none → mput eq l x v = l ++ [(x, v)] := by
  intro l x v
  induction l with
  | nil => intro _; rfl
  | cons p l ih =>
    intro h
    simp only [mfind, mput] at h ⊢
    cases e : eq x p.1
    · rw [e] at h
      rw [cond_false, ih h]
      rfl
    · rw [e] at h; cases h

theorem wrap_time {a d : Int} (ha : timeB a = true) (h0 : 0 ≤ d) (h1 : d ≤ 68719476736) : IntKind.wrap .i64 (a - d) = a - d := by
  simp only [timeB, Bool.and_eq_true] at ha
  have h2 := ileI ha.1
  have h3 := ileI ha.2
  exact wrapI (by omega) (by omega)
theorem time_of {m : Msg} (h : rightB m = true) : timeB m.ar = true := by
  simp only [rightB, Bool.and_eq_true] at h
  exact h.2.2.2.1
theorem last_mem {l : List Msg} (h : l ≠ []) : List.getD l (l.length - 1) d_msg ∈ l := by
  have hl : l.length - 1 < l.length := by
    cases l with
    | nil => exact absurd rfl h
    | cons x l => simp
  rw [getD_lt hl]
  exact List.getElem_mem hl
theorem rmark_some {x : RF} (h : x.gt ≠ []) : rmarkZ x = IntKind.wrap .i64 ((List.getD x.gt (x.gt.length - 1) d_msg).ar - x.dl) := by
  unfold rmarkZ
  rw [len0, show (x.gt.length == 0) = false by simpa using h]
  rfl
theorem last_snoc (l : List Msg) (m : Msg) : List.getD (l ++ [m]) ((l ++ [m]).length - 1) d_msg = m := by
  rw [getD_lt (by simp)]
  simp

theorem side_putE {s : FS} {x : RF} (h : Side s x) (m : Msg) : putE s m = rputE x m := by
  unfold putE rputE
  by_cases hr : rightB m = true
  · have ht := time_of hr
    simp only [timeB, Bool.and_eq_true] at ht
    have h2 := ileI ht.1
    have e1 : ilt m.ar s.ls = (ilt 0 (Int.ofNat x.gt.length) && ilt m.ar (List.getD x.gt (x.gt.length - 1) d_msg).ar) := by
      rw [h.ls]
      by_cases hg : x.gt = []
      · rw [if_pos hg, iltF (show ¬ m.ar < -68719476736 by omega), hg, iltF (show ¬ (0 : Int) < Int.ofNat ([] : List Msg).length by simp), Bool.false_and]
      · rw [if_neg hg, iltT (show (0 : Int) < Int.ofNat x.gt.length by cases hh : x.gt with | nil => exact absurd hh hg | cons a b => simp), Bool.true_and]
    have e2 : mgetD kq_key (x.gt.map fun m => (keyM m, true)) (keyM m) d_bool = hasB x.gt m.nd m.no := by
      unfold mgetD
      rw [got_has]
      cases hasB x.gt m.nd m.no <;> rfl
    rw [e1, h.got, e2, List.length_map]
  · rw [Bool.not_eq_true] at hr
    simp only [hr, Bool.not_false, cond_true]
theorem keys_snoc {s : FS} {x : RF} (h : Side s x) {m : Msg} (hh : hasB x.gt m.nd m.no = false) : keysB (s.wt ++ [m]) = true := by
  have hne : ∀ y, y ∈ s.wt → ¬ (y.nd = m.nd ∧ y.no = m.no) := fun y hy e => by
    have : hasB x.gt m.nd m.no = true := List.any_eq_true.2 ⟨y, h.sub y hy, by simp [e.1, e.2]⟩
    rw [hh] at this; cases this
  refine keysB_iff.2 fun a ha b hb h1 h2 => ?_
  obtain ⟨_, e1, e2⟩ := before_tie h1 h2
  rcases List.mem_append.1 ha with ha1 | ha1 <;> rcases List.mem_append.1 hb with hb1 | hb1
  · exact keysB_iff.1 h.keys a ha1 b hb1 h1 h2
  · rw [List.mem_singleton] at hb1; rw [hb1] at e1 e2; exact absurd ⟨e1, e2⟩ (hne a ha1)
  · rw [List.mem_singleton] at ha1; rw [ha1] at e1 e2; exact absurd ⟨e1.symm, e2.symm⟩ (hne b hb1)
  · rw [List.mem_singleton] at ha1 hb1; rw [ha1, hb1]
theorem put_ok {x : RF} {m : Msg} (h : (rputE x m == 0) = true) : rightB m = true ∧ (x.gt ≠ [] → (List.getD x.gt (x.gt.length - 1) d_msg).ar ≤ m.ar) ∧ hasB x.gt m.nd m.no = false ∧ x.gt.length < 10000 := by
  unfold rputE at h
  cases h1 : rightB m
  · simp [h1] at h
  cases h2 : ilt 0 (Int.ofNat (List.length x.gt)) && ilt m.ar (List.getD x.gt (x.gt.length - 1) d_msg).ar
  rotate_left
  · simp only [h1, h2, Bool.not_true, cond_false, cond_true] at h; simp at h
  cases h3 : hasB x.gt m.nd m.no
  rotate_left
  · simp only [h1, h2, h3, Bool.not_true, cond_false, cond_true] at h; simp at h
  cases h4 : ile (10000 : Int) (Int.ofNat (List.length x.gt))
  rotate_left
  · simp only [h1, h2, h3, h4, Bool.not_true, cond_false, cond_true] at h; simp at h
  refine ⟨rfl, fun hg => ?_, rfl, ?_⟩
  · rw [iltT (show (0 : Int) < Int.ofNat x.gt.length by cases hh : x.gt with | nil => exact absurd hh hg | cons a b => simp), Bool.true_and] at h2
    have := iltN h2
    omega
  · have := ileN h4
    simp at this
    omega
theorem side_put {s : FS} {x : RF} (h : Side s x) (m : Msg) (hf : x.gt.length < 9000) : Side (putS s m) (rputF x m) := by
  have hE := side_putE h m
  cases hb : rputE x m == 0
  · have e1 : putS s m = s := by unfold putS; rw [hE, hb]; rfl
    have e2 : rputF x m = x := by unfold rputF; rw [hb]; rfl
    rw [e1, e2]; exact h
  · obtain ⟨h1, h2, h3, h4⟩ := put_ok hb
    have ht := time_of h1
    have htb := ht
    simp only [timeB, Bool.and_eq_true] at htb
    have t1 := ileI htb.1
    have t2 := ileI htb.2
    have hd0 := h.d0
    have hd1 := h.d1
    have hup : upM s m = m.ar - s.dl := wrap_time ht hd0 hd1
    have hle : s.mk_ ≤ m.ar - s.dl := by
      rw [h.mkz]
      by_cases hg : x.gt = []
      · rw [show rmarkZ x = -137438953472 by unfold rmarkZ; rw [hg]; rfl]
        omega
      · rw [rmark_some hg, ← h.dl, wrap_time (h.rt _ (last_mem hg)) hd0 hd1]
        have := h2 hg
        omega
    have hmk : (bif ilt s.mk_ (upM s m) then upM s m else s.mk_) = m.ar - s.dl := by
      rw [hup]
      by_cases hlt : s.mk_ < m.ar - s.dl
      · rw [iltT hlt]; rfl
      · rw [iltF hlt, cond_false]; omega
    have e1 : putS s m = ⟨s.dl, m.ar - s.dl, m.ar, mput kq_key s.got (keyM m) true, bif ilt m.at_ s.mk_ then s.wt else s.wt ++ [m], bif ilt m.at_ s.mk_ then s.lt ++ [m] else s.lt⟩ := by
      unfold putS; rw [hE, hb]
      simp only [cond_true, hmk]
    have e2 : rputF x m = ⟨x.dl, x.gt ++ [m], bif ilt m.at_ s.mk_ then x.wt else withL m x.wt, bif ilt m.at_ s.mk_ then x.lt ++ [m] else x.lt⟩ := by
      unfold rputF; rw [hb, ← h.mkz]; rfl
    rw [e1, e2]
    have hne : x.gt ++ [m] ≠ [] := by simp
    refine ⟨h.dl, hd0, hd1, ?_, ?_, fun y hy => ?_, ?_, ?_, ?_, fun y hy => ?_, ?_, ?_, ?_, ?_⟩
    · rw [rmark_some (x := ⟨_, _, _, _⟩) hne, last_snoc]
      simp only
      rw [← h.dl, wrap_time ht hd0 hd1]
    · simp only
      rw [if_neg hne, last_snoc]
    · rcases List.mem_append.1 hy with hy | hy
      · exact h.rt y hy
      · rw [List.mem_singleton] at hy; rw [hy]; exact ht
    · simp only [h.got]
      rw [mput_new _ _ _ _ (by rw [got_has, h3]; rfl), List.map_append]
      rfl
    · simp only [h.lt]
    · cases hc : ilt m.at_ s.mk_
      · simp only [cond_false, h.wt]
        exact (sortM_snoc (keys_snoc h h3)).symm
      · exact h.wt
    · simp only at hy ⊢
      cases hc : ilt m.at_ s.mk_ <;> rw [hc] at hy
      · rcases List.mem_append.1 hy with hy | hy
        · exact List.mem_append_left _ (h.sub y hy)
        · exact List.mem_append_right _ hy
      · exact List.mem_append_left _ (h.sub y hy)
    · simp only
      cases hc : ilt m.at_ s.mk_
      · exact keys_snoc h h3
      · exact h.keys
    · have := h.w1
      simp only
      cases ilt m.at_ s.mk_ <;> simp <;> omega
    · have := h.l1
      simp only
      cases ilt m.at_ s.mk_ <;> simp <;> omega
    · simp; omega

/-- the feed of the code after Ready -/
noncomputable def readyS (s : FS) : FS := ⟨s.dl, s.mk_, s.ls, s.got, List.filter (fun m => !(ilt (Msg.at_ m) s.mk_)) s.wt, s.lt⟩
noncomputable def readyL (s : FS) : List Msg := sortM (List.filter (fun m => ilt (Msg.at_ m) s.mk_) s.wt)
theorem side_ready {s : FS} {x : RF} (h : Side s x) : readyL s = rreadyL x ∧ Side (readyS s) (rreadyF x) := by
  obtain ⟨k1, k2⟩ := sorted_split (rmarkZ x) (sortM s.wt) (sortM_sorted _)
  have hle : (List.filter (fun m => !(ilt (Msg.at_ m) s.mk_)) s.wt).length ≤ s.wt.length := List.length_filter_le _ _
  have hw := h.w1
  constructor
  · unfold readyL rreadyL
    rw [h.mkz, h.wt, k1, sortM_filter h.keys]
  · refine ⟨h.dl, h.d0, h.d1, h.mkz, h.ls, h.rt, h.got, h.lt, ?_, fun y hy => h.sub y (List.mem_filter.1 hy).1, keysB_sub h.keys fun y hy => (List.mem_filter.1 hy).1, ?_, h.l1, h.few⟩
    · show x.wt.drop (preN (rmarkZ x) x.wt) = sortM _
      rw [h.wt, k2, ← sortM_filter h.keys]
      show _ = sortM (List.filter (fun m => !(ilt (Msg.at_ m) s.mk_)) s.wt)
      rw [h.mkz]
    · exact Nat.le_trans hle hw
/-- what waits after Ready is not ready -/
theorem ready_twice (s : FS) : readyL (readyS s) = [] := by
  unfold readyL readyS
  simp only [List.filter_filter]
  rw [List.filter_eq_nil_iff.2 (fun y _ => by cases ilt y.at_ s.mk_ <;> simp)]
  exact List.mergeSort_nil
theorem side_fsOk {s : FS} {x : RF} (h : Side s x) : fsOk s = true := by
  have := h.w1; have := h.l1; have := h.few
  unfold fsOk
  rw [nleT (by omega), nleT (by omega)]; rfl
theorem side_rfOk {s : FS} {x : RF} (h : Side s x) : rfOk x = true := by
  have := h.w1; have := h.l1; have := h.few
  have e1 : x.wt.length = s.wt.length := by rw [h.wt]; exact (sortM_perm _).length_eq
  unfold rfOk
  rw [nleT (by omega), nleT (by omega), nleT (by rw [← h.lt]; omega)]; rfl
end Go.Proofs.Ytkeplmpcijigaaa
