/- The law TelemetryOrder. -/
import Derived.Test.YtkeplmpcijigaaaVF
namespace Go.Proofs.Ytkeplmpcijigaaa
set_option linter.unusedSectionVars false
set_option linter.unusedSimpArgs false
set_option linter.unusedVariables false
set_option maxRecDepth 100000
open Go.Sort

abbrev Dis (a b : Msg) : Prop := ¬ (a.nd = b.nd ∧ a.no = b.no)
theorem dis_perm {l l' : List Msg} (h : l.Perm l') (hd : l.Pairwise Dis) : l'.Pairwise Dis :=
  (h.pairwise_iff (fun {x y} hxy e => hxy ⟨e.1.symm, e.2.symm⟩)).1 hd
structure Ord (s : FS) (x : RF) (out : List Msg) (z : Int) : Prop where
  side : Side s x
  perm : x.gt.Perm (out ++ (s.lt ++ s.wt))
  dis : x.gt.Pairwise Dis
  srt : out.Pairwise fun a b => beforeB a b = true
  oz : ∀ m, m ∈ out → m.at_ < z
  wz : ∀ m, m ∈ s.wt → z ≤ m.at_
  zm : z ≤ s.mk_

theorem put_mono (s : FS) (m : Msg) : s.mk_ ≤ (putS s m).mk_ := by
  unfold putS
  simp only
  cases putE s m == 0
  · exact Int.le_refl _
  · by_cases h : s.mk_ < upM s m
    · rw [iltT h]; exact Int.le_of_lt h
    · rw [iltF h]; exact Int.le_refl _
theorem ord_start {d : Int} (h0 : 0 ≤ d) (h1 : d ≤ 68719476736) : Ord ⟨d, -137438953472, -68719476736, [], [], []⟩ ⟨d, [], [], []⟩ [] (-137438953472) :=
  ⟨start h0 h1, List.Perm.refl _, List.Pairwise.nil, List.Pairwise.nil, fun m h => (by cases h), fun m h => (by cases h), Int.le_refl _⟩
theorem ord_put {s : FS} {x : RF} {out : List Msg} {z : Int} (h : Ord s x out z) (m : Msg) (hf : x.gt.length < 9000) : Ord (putS s m) (rputF x m) out z := by
  have hE := side_putE h.side m
  cases hb : rputE x m == 0
  · have e1 : putS s m = s := by unfold putS; rw [hE, hb]; rfl
    have e2 : rputF x m = x := by unfold rputF; rw [hb]; rfl
    rw [e1, e2]; exact h
  · obtain ⟨h1, h2, h3, h4⟩ := put_ok hb
    have hgt : (rputF x m).gt = x.gt ++ [m] := by unfold rputF; rw [hb]; rfl
    have hwt : (putS s m).wt = bif ilt m.at_ s.mk_ then s.wt else s.wt ++ [m] := by unfold putS; rw [hE, hb]; rfl
    have hlt : (putS s m).lt = bif ilt m.at_ s.mk_ then s.lt ++ [m] else s.lt := by unfold putS; rw [hE, hb]; rfl
    refine ⟨side_put h.side m hf, ?_, ?_, h.srt, h.oz, ?_, Int.le_trans h.zm (put_mono s m)⟩
    · rw [hgt, hwt, hlt]
      cases ilt m.at_ s.mk_
      · simp only [cond_false]
        rw [← List.append_assoc, ← List.append_assoc]
        refine List.Perm.append_right [m] ?_
        rw [List.append_assoc]
        exact h.perm
      · simp only [cond_true]
        refine (h.perm.append_right [m]).trans ?_
        rw [List.append_assoc, List.append_assoc, List.append_assoc]
        exact List.Perm.append_left out (List.Perm.append_left s.lt List.perm_append_comm)
    · rw [hgt]
      refine List.pairwise_append.2 ⟨h.dis, List.pairwise_singleton _ _, fun a ha b hb e => ?_⟩
      rw [List.mem_singleton] at hb
      subst hb
      have : hasB x.gt b.nd b.no = true := List.any_eq_true.2 ⟨a, ha, by simp [e.1, e.2]⟩
      rw [h3] at this; cases this
    · intro y hy
      rw [hwt] at hy
      cases hc : ilt m.at_ s.mk_ <;> rw [hc] at hy
      · rcases List.mem_append.1 hy with hy | hy
        · exact h.wz y hy
        · rw [List.mem_singleton] at hy
          rw [hy]
          have := iltN hc
          have := h.zm
          omega
      · exact h.wz y hy
theorem filt_perm (p : Msg → Bool) (l : List Msg) : l.Perm (l.filter p ++ l.filter fun m => !p m) := by
  induction l with
  | nil => exact List.Perm.refl _
  | cons x l ih =>
    simp only [List.filter_cons]
    cases p x
    · exact (ih.cons x).trans (List.perm_middle.symm)
    · exact ih.cons x
theorem ord_len {s : FS} {x : RF} {out : List Msg} {z : Int} (h : Ord s x out z) : out.length + s.lt.length + s.wt.length = x.gt.length := by
  have := h.perm.length_eq
  simp only [List.length_append] at this
  omega
theorem readyL_perm (s : FS) : (readyL s).Perm (s.wt.filter fun m => ilt m.at_ s.mk_) := sortM_perm _
theorem ready_lt {s : FS} {m : Msg} (h : m ∈ readyL s) : m.at_ < s.mk_ ∧ m ∈ s.wt := by
  have := List.mem_filter.1 ((readyL_perm s).mem_iff.1 h)
  exact ⟨iltI this.2, this.1⟩
theorem ord_ready {s : FS} {x : RF} {out : List Msg} {z : Int} (h : Ord s x out z) : Ord (readyS s) (rreadyF x) (out ++ readyL s) s.mk_ := by
  have hp : s.wt.Perm (readyL s ++ (readyS s).wt) := (filt_perm (fun m => ilt m.at_ s.mk_) s.wt).trans ((readyL_perm s).symm.append_right _)
  have hall := dis_perm h.perm h.dis
  have hw : s.wt.Pairwise Dis := (List.pairwise_append.1 (List.pairwise_append.1 hall).2.1).2.1
  have hr : (readyL s).Pairwise Dis := (List.pairwise_append.1 (dis_perm hp hw)).1
  refine ⟨(side_ready h.side).2, ?_, h.dis, ?_, ?_, ?_, Int.le_refl _⟩
  · show x.gt.Perm ((out ++ readyL s) ++ (s.lt ++ (readyS s).wt))
    refine h.perm.trans ?_
    rw [List.append_assoc]
    refine List.Perm.append_left out ?_
    refine (List.Perm.append_left s.lt hp).trans ?_
    rw [← List.append_assoc, ← List.append_assoc]
    exact List.Perm.append_right _ List.perm_append_comm
  · refine List.pairwise_append.2 ⟨h.srt, ?_, fun a ha b hb => ?_⟩
    · refine ((sortM_sorted _).and hr).imp ?_
      rintro a b ⟨h1, h2⟩
      cases hab : beforeB a b
      · obtain ⟨_, e1, e2⟩ := before_tie hab h1
        exact absurd ⟨e1, e2⟩ h2
      · rfl
    · have h1 := h.oz a ha
      have h2 := h.wz b (ready_lt hb).2
      exact (before_iff a b).2 (.inl (by omega))
  · intro m hm
    rcases List.mem_append.1 hm with hm | hm
    · have := h.oz m hm
      have := h.zm
      omega
    · exact (ready_lt hm).1
  · intro m hm
    have := (List.mem_filter.1 hm).2
    simp only [Bool.not_eq_true'] at this
    have := iltN this
    show s.mk_ ≤ m.at_
    omega
theorem in_iff {m : Msg} {l : List Msg} : ile 0 (idxZ m l) = true ↔ m ∈ l := by
  rw [show ile 0 (idxZ m l) = l.any (eqM m) from findZ_any _ _ 0, List.any_eq_true]
  constructor
  · rintro ⟨x, hx, h⟩; rw [eqM_iff.1 h]; exact hx
  · intro h; exact ⟨m, h, eqM_iff.2 rfl⟩
noncomputable def restB (out late : List Msg) (m : Msg) : Bool := !(ile 0 (idxZ m out)) && !(ile 0 (idxZ m late))
theorem rest_count {s : FS} {x : RF} {out : List Msg} {z : Int} (h : Ord s x out z) : (x.gt.filter (restB out s.lt)).length = s.wt.length ∧ ∀ m, m ∈ x.gt → ¬ (m ∈ out ∧ m ∈ s.lt) ∧ (restB out s.lt m = true → m ∈ s.wt) := by
  have hall := dis_perm h.perm h.dis
  obtain ⟨_, h2, h3⟩ := List.pairwise_append.1 hall
  obtain ⟨_, _, h4⟩ := List.pairwise_append.1 h2
  have r_iff : ∀ m, restB out s.lt m = true ↔ (m ∉ out ∧ m ∉ s.lt) := fun m => by
    unfold restB
    rw [Bool.and_eq_true, Bool.not_eq_true', Bool.not_eq_true', ← Bool.not_eq_true, ← Bool.not_eq_true, in_iff, in_iff]
  constructor
  · rw [(h.perm.filter _).length_eq, List.filter_append, List.filter_append]
    have e1 : out.filter (restB out s.lt) = [] := List.filter_eq_nil_iff.2 fun m hm hr => ((r_iff m).1 hr).1 hm
    have e2 : s.lt.filter (restB out s.lt) = [] := List.filter_eq_nil_iff.2 fun m hm hr => ((r_iff m).1 hr).2 hm
    have e3 : s.wt.filter (restB out s.lt) = s.wt := List.filter_eq_self.2 fun m hm => (r_iff m).2 ⟨fun ho => h3 m ho m (List.mem_append_right _ hm) ⟨rfl, rfl⟩, fun hl => h4 m hl m hm ⟨rfl, rfl⟩⟩
    rw [e1, e2, e3]
    simp
  · intro m hm
    refine ⟨fun ⟨h5, h6⟩ => h3 m h5 m (List.mem_append_left _ h6) ⟨rfl, rfl⟩, fun hr => ?_⟩
    obtain ⟨h5, h6⟩ := (r_iff m).1 hr
    rcases List.mem_append.1 (h.perm.mem_iff.1 hm) with h7 | h7
    · exact absurd h7 h5
    · rcases List.mem_append.1 h7 with h8 | h8
      · exact absurd h8 h6
      · exact h8

namespace lawOrder
noncomputable def bd : Code := (Try.f4.body).getD .skip
noncomputable def X : Ctx U El := ⟨E, tds, zeros, eqs, specOf [(9, awake.sp), (10, many.sp), (20, rbefore.sp), (21, containsM.sp)], 100000, 224, dspecOf [(14, fmark.sp)], mspecOf [(11, (mcSp newF.sp)), (13, (mcSp (orN fputN.sp fput.sp))), (14, (mcSp (orN fmarkN.sp fmark.sp))), (17, (mcSp (orN flateN.sp flate.sp))), (19, (mcSp (orN freadyN.sp fready.sp)))]⟩
noncomputable def nmR : Norm U := ⟨[], [6], [], [], [], [], []⟩
noncomputable def RR : Kont U El := fun st => normK nmR st (retFin [6] [])
noncomputable def nm1 : Norm U := ⟨[], [0, 1, 2], [], [], [], [], []⟩
noncomputable def nm2 : Norm U := ⟨[], [1, 2, 7], [49000, 504900003, 504900004, 504900005], [], [(49000, 3, .key, 504900003), (49000, 4, .msg, 504900004), (49000, 5, .msg, 504900005)], [], []⟩
noncomputable def nm3 : Norm U := ⟨[(9, .msg), (10, .msg)], [7, 9, 10], [9, 10, 49000, 504900003, 504900004, 504900005], [], [(49000, 3, .key, 504900003), (49000, 4, .msg, 504900004), (49000, 5, .msg, 504900005)], [], []⟩
noncomputable def nm4 : Norm U := ⟨[(9, .msg), (10, .msg)], [2, 7, 9, 10, 58, 59, 60], [9, 10, 49000, 504900003, 504900004, 504900005], [], [(49000, 3, .key, 504900003), (49000, 4, .msg, 504900004), (49000, 5, .msg, 504900005)], [], []⟩
noncomputable def nm5 : Norm U := ⟨[(9, .msg), (10, .msg)], [2, 7, 9, 10, 58, 59, 60], [9, 10, 49000, 504900003, 504900004, 504900005], [], [(49000, 3, .key, 504900003), (49000, 4, .msg, 504900004), (49000, 5, .msg, 504900005)], [], []⟩
noncomputable def nm6 : Norm U := ⟨[(9, .msg), (10, .msg)], [2, 7, 9, 10, 11, 58, 59, 60], [9, 10, 49000, 504900003, 504900004, 504900005], [], [(49000, 3, .key, 504900003), (49000, 4, .msg, 504900004), (49000, 5, .msg, 504900005)], [], []⟩
noncomputable def nm7 : Norm U := ⟨[(9, .msg), (10, .msg), (15, .msg)], [2, 7, 9, 10, 15, 58, 59, 60], [9, 10, 15, 49000, 504900003, 504900004, 504900005], [], [(49000, 3, .key, 504900003), (49000, 4, .msg, 504900004), (49000, 5, .msg, 504900005)], [], []⟩
noncomputable def nm8 : Norm U := ⟨[(9, .msg), (10, .msg), (15, .msg)], [2, 7, 9, 10, 15, 58, 59, 60, 131, 132, 133], [9, 10, 15, 49000, 504900003, 504900004, 504900005], [], [(49000, 3, .key, 504900003), (49000, 4, .msg, 504900004), (49000, 5, .msg, 504900005)], [], []⟩
noncomputable def nm9 : Norm U := ⟨[(9, .msg), (10, .msg)], [7, 9, 10], [9, 10, 49000, 504900003, 504900004, 504900005], [], [(49000, 3, .key, 504900003), (49000, 4, .msg, 504900004), (49000, 5, .msg, 504900005)], [], []⟩
noncomputable def nm10 : Norm U := ⟨[(9, .msg), (10, .msg)], [7, 9, 10, 152, 153], [9, 10, 49000, 504900003, 504900004, 504900005], [], [(49000, 3, .key, 504900003), (49000, 4, .msg, 504900004), (49000, 5, .msg, 504900005)], [], []⟩
noncomputable def nm11 : Norm U := ⟨[(9, .msg), (10, .msg)], [7, 9, 10, 152, 153], [9, 10, 49000, 504900003, 504900004, 504900005], [], [(49000, 3, .key, 504900003), (49000, 4, .msg, 504900004), (49000, 5, .msg, 504900005)], [], []⟩
noncomputable def nm12 : Norm U := ⟨[(9, .msg), (10, .msg), (19, .msg)], [9, 10, 19, 20], [9, 10, 19], [], [], [], []⟩
noncomputable def nm13 : Norm U := ⟨[(9, .msg), (10, .msg), (19, .msg)], [7, 9, 10, 19, 20, 174, 175, 176], [9, 10, 19, 49000, 504900003, 504900004, 504900005], [], [(49000, 3, .key, 504900003), (49000, 4, .msg, 504900004), (49000, 5, .msg, 504900005)], [], []⟩
noncomputable def nm14 : Norm U := ⟨[(9, .msg), (10, .msg), (19, .msg)], [7, 9, 10, 19, 20, 174, 175, 176], [9, 10, 19, 49000, 504900003, 504900004, 504900005], [], [(49000, 3, .key, 504900003), (49000, 4, .msg, 504900004), (49000, 5, .msg, 504900005)], [], []⟩
noncomputable def nm15 : Norm U := ⟨[(9, .msg), (10, .msg), (19, .msg)], [7, 9, 10, 19, 20, 23, 24, 174, 175, 176], [9, 10, 19, 49000, 504900003, 504900004, 504900005], [], [(49000, 3, .key, 504900003), (49000, 4, .msg, 504900004), (49000, 5, .msg, 504900005)], [], []⟩
noncomputable def fr0 (d : Int) (l : List Msg) (tk : List Bool) : St U El := ⟨[(0, (.int .i64 d)), (1, (.lst .msg l)), (2, (.lst .bool tk))], []⟩
noncomputable def fr1 (delay0 : Int) (l1 : List Msg) (take2 : List Bool) : St U El := ⟨[(0, (.int .i64 delay0)), (1, (.lst .msg l1)), (2, (.lst .bool take2))], []⟩
noncomputable def fr2 (l1 : List Msg) (take2 : List Bool) (b49000_0 : Int) (b49000_1 : Int) (b49000_2 : Int) (b49000_3 : List (Key × Bool)) (b49000_4 : List Msg) (b49000_5 : List Msg) : St U El := ⟨[(1, (.lst .msg l1)), (2, (.lst .bool take2)), (7, (.ptr 49000 0))], [(49000, (.box 0 [(.int .i64 b49000_0), (.int .i64 b49000_1), (.int .i64 b49000_2), (.mp 504900003), (.ful 504900004), (.ful 504900005)])), (504900003, (.map .key .bool b49000_3)), (504900004, (.rows .msg b49000_4)), (504900005, (.rows .msg b49000_5))]⟩
noncomputable def fr3 (put9 : List Msg) (out10 : List Msg) (b49000_0 : Int) (b49000_1 : Int) (b49000_2 : Int) (b49000_3 : List (Key × Bool)) (b49000_4 : List Msg) (b49000_5 : List Msg) : St U El := ⟨[(7, (.ptr 49000 0)), (9, (.ful 9)), (10, (.ful 10))], [(9, (.rows .msg put9)), (10, (.rows .msg out10)), (49000, (.box 0 [(.int .i64 b49000_0), (.int .i64 b49000_1), (.int .i64 b49000_2), (.mp 504900003), (.ful 504900004), (.ful 504900005)])), (504900003, (.map .key .bool b49000_3)), (504900004, (.rows .msg b49000_4)), (504900005, (.rows .msg b49000_5))]⟩
noncomputable def fr4 (take2 : List Bool) (put9 : List Msg) (out10 : List Msg) (x58 : List Msg) (x59 : Int) (x60 : Int) (b49000_0 : Int) (b49000_1 : Int) (b49000_2 : Int) (b49000_3 : List (Key × Bool)) (b49000_4 : List Msg) (b49000_5 : List Msg) : St U El := ⟨[(2, (.lst .bool take2)), (7, (.ptr 49000 0)), (9, (.ful 9)), (10, (.ful 10)), (58, (.lst .msg x58)), (59, (.int .i64 x59)), (60, (.int .i64 x60))], [(9, (.rows .msg put9)), (10, (.rows .msg out10)), (49000, (.box 0 [(.int .i64 b49000_0), (.int .i64 b49000_1), (.int .i64 b49000_2), (.mp 504900003), (.ful 504900004), (.ful 504900005)])), (504900003, (.map .key .bool b49000_3)), (504900004, (.rows .msg b49000_4)), (504900005, (.rows .msg b49000_5))]⟩
noncomputable def fr5 (take2 : List Bool) (put9 : List Msg) (out10 : List Msg) (x58 : List Msg) (x59 : Int) (x60 : Int) (b49000_0 : Int) (b49000_1 : Int) (b49000_2 : Int) (b49000_3 : List (Key × Bool)) (b49000_4 : List Msg) (b49000_5 : List Msg) : St U El := ⟨[(2, (.lst .bool take2)), (7, (.ptr 49000 0)), (9, (.ful 9)), (10, (.ful 10)), (58, (.lst .msg x58)), (59, (.int .i64 x59)), (60, (.int .i64 x60))], [(9, (.rows .msg put9)), (10, (.rows .msg out10)), (49000, (.box 0 [(.int .i64 b49000_0), (.int .i64 b49000_1), (.int .i64 b49000_2), (.mp 504900003), (.ful 504900004), (.ful 504900005)])), (504900003, (.map .key .bool b49000_3)), (504900004, (.rows .msg b49000_4)), (504900005, (.rows .msg b49000_5))]⟩
noncomputable def fr6 (take2 : List Bool) (put9 : List Msg) (out10 : List Msg) (i11 : Int) (x58 : List Msg) (x59 : Int) (x60 : Int) (b49000_0 : Int) (b49000_1 : Int) (b49000_2 : Int) (b49000_3 : List (Key × Bool)) (b49000_4 : List Msg) (b49000_5 : List Msg) : St U El := ⟨[(2, (.lst .bool take2)), (7, (.ptr 49000 0)), (9, (.ful 9)), (10, (.ful 10)), (11, (.int .i64 i11)), (58, (.lst .msg x58)), (59, (.int .i64 x59)), (60, (.int .i64 x60))], [(9, (.rows .msg put9)), (10, (.rows .msg out10)), (49000, (.box 0 [(.int .i64 b49000_0), (.int .i64 b49000_1), (.int .i64 b49000_2), (.mp 504900003), (.ful 504900004), (.ful 504900005)])), (504900003, (.map .key .bool b49000_3)), (504900004, (.rows .msg b49000_4)), (504900005, (.rows .msg b49000_5))]⟩
noncomputable def fr7 (take2 : List Bool) (put9 : List Msg) (out10 : List Msg) (ready15 : List Msg) (x58 : List Msg) (x59 : Int) (x60 : Int) (b49000_0 : Int) (b49000_1 : Int) (b49000_2 : Int) (b49000_3 : List (Key × Bool)) (b49000_4 : List Msg) (b49000_5 : List Msg) : St U El := ⟨[(2, (.lst .bool take2)), (7, (.ptr 49000 0)), (9, (.ful 9)), (10, (.ful 10)), (15, (.ful 15)), (58, (.lst .msg x58)), (59, (.int .i64 x59)), (60, (.int .i64 x60))], [(9, (.rows .msg put9)), (10, (.rows .msg out10)), (15, (.rows .msg ready15)), (49000, (.box 0 [(.int .i64 b49000_0), (.int .i64 b49000_1), (.int .i64 b49000_2), (.mp 504900003), (.ful 504900004), (.ful 504900005)])), (504900003, (.map .key .bool b49000_3)), (504900004, (.rows .msg b49000_4)), (504900005, (.rows .msg b49000_5))]⟩
noncomputable def fr8 (take2 : List Bool) (put9 : List Msg) (out10 : List Msg) (ready15 : List Msg) (x58 : List Msg) (x59 : Int) (x60 : Int) (x132 : Int) (x133 : Int) (b49000_0 : Int) (b49000_1 : Int) (b49000_2 : Int) (b49000_3 : List (Key × Bool)) (b49000_4 : List Msg) (b49000_5 : List Msg) : St U El := ⟨[(2, (.lst .bool take2)), (7, (.ptr 49000 0)), (9, (.ful 9)), (10, (.ful 10)), (15, (.ful 15)), (58, (.lst .msg x58)), (59, (.int .i64 x59)), (60, (.int .i64 x60)), (131, (.ful 15)), (132, (.int .i64 x132)), (133, (.int .i64 x133))], [(9, (.rows .msg put9)), (10, (.rows .msg out10)), (15, (.rows .msg ready15)), (49000, (.box 0 [(.int .i64 b49000_0), (.int .i64 b49000_1), (.int .i64 b49000_2), (.mp 504900003), (.ful 504900004), (.ful 504900005)])), (504900003, (.map .key .bool b49000_3)), (504900004, (.rows .msg b49000_4)), (504900005, (.rows .msg b49000_5))]⟩
noncomputable def fr9 (put9 : List Msg) (out10 : List Msg) (b49000_0 : Int) (b49000_1 : Int) (b49000_2 : Int) (b49000_3 : List (Key × Bool)) (b49000_4 : List Msg) (b49000_5 : List Msg) : St U El := ⟨[(7, (.ptr 49000 0)), (9, (.ful 9)), (10, (.ful 10))], [(9, (.rows .msg put9)), (10, (.rows .msg out10)), (49000, (.box 0 [(.int .i64 b49000_0), (.int .i64 b49000_1), (.int .i64 b49000_2), (.mp 504900003), (.ful 504900004), (.ful 504900005)])), (504900003, (.map .key .bool b49000_3)), (504900004, (.rows .msg b49000_4)), (504900005, (.rows .msg b49000_5))]⟩
noncomputable def fr10 (put9 : List Msg) (out10 : List Msg) (x152 : Int) (x153 : Int) (b49000_0 : Int) (b49000_1 : Int) (b49000_2 : Int) (b49000_3 : List (Key × Bool)) (b49000_4 : List Msg) (b49000_5 : List Msg) : St U El := ⟨[(7, (.ptr 49000 0)), (9, (.ful 9)), (10, (.ful 10)), (152, (.int .i64 x152)), (153, (.int .i64 x153))], [(9, (.rows .msg put9)), (10, (.rows .msg out10)), (49000, (.box 0 [(.int .i64 b49000_0), (.int .i64 b49000_1), (.int .i64 b49000_2), (.mp 504900003), (.ful 504900004), (.ful 504900005)])), (504900003, (.map .key .bool b49000_3)), (504900004, (.rows .msg b49000_4)), (504900005, (.rows .msg b49000_5))]⟩
noncomputable def fr11 (put9 : List Msg) (out10 : List Msg) (x152 : Int) (x153 : Int) (b49000_0 : Int) (b49000_1 : Int) (b49000_2 : Int) (b49000_3 : List (Key × Bool)) (b49000_4 : List Msg) (b49000_5 : List Msg) : St U El := ⟨[(7, (.ptr 49000 0)), (9, (.ful 9)), (10, (.ful 10)), (152, (.int .i64 x152)), (153, (.int .i64 x153))], [(9, (.rows .msg put9)), (10, (.rows .msg out10)), (49000, (.box 0 [(.int .i64 b49000_0), (.int .i64 b49000_1), (.int .i64 b49000_2), (.mp 504900003), (.ful 504900004), (.ful 504900005)])), (504900003, (.map .key .bool b49000_3)), (504900004, (.rows .msg b49000_4)), (504900005, (.rows .msg b49000_5))]⟩
noncomputable def fr12 (put9 : List Msg) (out10 : List Msg) (late19 : List Msg) (rest20 : Int) : St U El := ⟨[(9, (.ful 9)), (10, (.ful 10)), (19, (.ful 19)), (20, (.int .i64 rest20))], [(9, (.rows .msg put9)), (10, (.rows .msg out10)), (19, (.rows .msg late19))]⟩
noncomputable def fr13 (put9 : List Msg) (out10 : List Msg) (late19 : List Msg) (rest20 : Int) (x175 : Int) (x176 : Int) (b49000_0 : Int) (b49000_1 : Int) (b49000_2 : Int) (b49000_3 : List (Key × Bool)) (b49000_4 : List Msg) (b49000_5 : List Msg) : St U El := ⟨[(7, (.ptr 49000 0)), (9, (.ful 9)), (10, (.ful 10)), (19, (.ful 19)), (20, (.int .i64 rest20)), (174, (.ful 9)), (175, (.int .i64 x175)), (176, (.int .i64 x176))], [(9, (.rows .msg put9)), (10, (.rows .msg out10)), (19, (.rows .msg late19)), (49000, (.box 0 [(.int .i64 b49000_0), (.int .i64 b49000_1), (.int .i64 b49000_2), (.mp 504900003), (.ful 504900004), (.ful 504900005)])), (504900003, (.map .key .bool b49000_3)), (504900004, (.rows .msg b49000_4)), (504900005, (.rows .msg b49000_5))]⟩
noncomputable def fr14 (put9 : List Msg) (out10 : List Msg) (late19 : List Msg) (rest20 : Int) (x175 : Int) (x176 : Int) (b49000_0 : Int) (b49000_1 : Int) (b49000_2 : Int) (b49000_3 : List (Key × Bool)) (b49000_4 : List Msg) (b49000_5 : List Msg) : St U El := ⟨[(7, (.ptr 49000 0)), (9, (.ful 9)), (10, (.ful 10)), (19, (.ful 19)), (20, (.int .i64 rest20)), (174, (.ful 9)), (175, (.int .i64 x175)), (176, (.int .i64 x176))], [(9, (.rows .msg put9)), (10, (.rows .msg out10)), (19, (.rows .msg late19)), (49000, (.box 0 [(.int .i64 b49000_0), (.int .i64 b49000_1), (.int .i64 b49000_2), (.mp 504900003), (.ful 504900004), (.ful 504900005)])), (504900003, (.map .key .bool b49000_3)), (504900004, (.rows .msg b49000_4)), (504900005, (.rows .msg b49000_5))]⟩
noncomputable def fr15 (put9 : List Msg) (out10 : List Msg) (late19 : List Msg) (rest20 : Int) (a23 : Bool) (b24 : Bool) (x175 : Int) (x176 : Int) (b49000_0 : Int) (b49000_1 : Int) (b49000_2 : Int) (b49000_3 : List (Key × Bool)) (b49000_4 : List Msg) (b49000_5 : List Msg) : St U El := ⟨[(7, (.ptr 49000 0)), (9, (.ful 9)), (10, (.ful 10)), (19, (.ful 19)), (20, (.int .i64 rest20)), (23, (.bool a23)), (24, (.bool b24)), (174, (.ful 9)), (175, (.int .i64 x175)), (176, (.int .i64 x176))], [(9, (.rows .msg put9)), (10, (.rows .msg out10)), (19, (.rows .msg late19)), (49000, (.box 0 [(.int .i64 b49000_0), (.int .i64 b49000_1), (.int .i64 b49000_2), (.mp 504900003), (.ful 504900004), (.ful 504900005)])), (504900003, (.map .key .bool b49000_3)), (504900004, (.rows .msg b49000_4)), (504900005, (.rows .msg b49000_5))]⟩
noncomputable def sh0 (d : Int) (l : List Msg) (tk : List Bool) (k1 : Int → (List Msg) → (List Bool) → R) : R :=
  condB (!(true)) (some ((.bool false), [])) (condB (ilt (30 : Int) (Int.ofNat (List.length l))) (some ((.bool true), [])) (chk (ile (30 : Int) 80000) (condB (manyB l (30 : Int)) (some ((.bool true), [])) (condB (ilt (40 : Int) (Int.ofNat (List.length tk))) (some ((.bool true), [])) (condB (ilt d (0 : Int)) (some ((.bool true), [])) (condB (ilt (68719476736 : Int) d) (some ((.bool true), [])) (k1 d l tk)))))))
noncomputable def sh1 (delay0 : Int) (l1 : List Msg) (take2 : List Bool) (k2 : (List Msg) → (List Bool) → Int → Int → Int → (List (Key × Bool)) → (List Msg) → (List Msg) → R) : R :=
  condB (ile 0 delay0 && ile delay0 68719476736) (k2 l1 take2 (delay0) (-137438953472 : Int) (-68719476736 : Int) ([]) ([]) ([])) (some ((.bool false), []))
noncomputable def sh2 (l1 : List Msg) (take2 : List Bool) (b49000_0 : Int) (b49000_1 : Int) (b49000_2 : Int) (b49000_3 : List (Key × Bool)) (b49000_4 : List Msg) (b49000_5 : List Msg) (k4 : (List Bool) → (List Msg) → (List Msg) → (List Msg) → Int → Int → Int → Int → Int → (List (Key × Bool)) → (List Msg) → (List Msg) → R) : R :=
  k4 take2 ([] : List Msg) ([] : List Msg) l1 (Int.ofNat (List.length l1)) (0 : Int) b49000_0 b49000_1 b49000_2 b49000_3 b49000_4 b49000_5
noncomputable def sh3 (put9 : List Msg) (out10 : List Msg) (b49000_0 : Int) (b49000_1 : Int) (b49000_2 : Int) (b49000_3 : List (Key × Bool)) (b49000_4 : List Msg) (b49000_5 : List Msg) (k10 : (List Msg) → (List Msg) → Int → Int → Int → Int → Int → (List (Key × Bool)) → (List Msg) → (List Msg) → R) : R :=
  chk ((keysB b49000_4 && nle (List.length b49000_4) 90000)) (chk (nle ((List.length out10 + List.length (sortM (List.filter (fun m => ilt (Msg.at_ m) b49000_1) b49000_4))) * 48) 140737488355328 && nle (List.length out10 + List.length (sortM (List.filter (fun m => ilt (Msg.at_ m) b49000_1) b49000_4))) 9223372036854775807) (k10 put9 (out10 ++ (sortM (List.filter (fun m => ilt (Msg.at_ m) b49000_1) b49000_4))) (Int.ofNat (List.length (out10 ++ (sortM (List.filter (fun m => ilt (Msg.at_ m) b49000_1) b49000_4))))) (0 : Int) b49000_0 b49000_1 b49000_2 b49000_3 (List.filter (fun m => !(ilt (Msg.at_ m) b49000_1)) b49000_4) b49000_5))
noncomputable def sh4 (take2 : List Bool) (put9 : List Msg) (out10 : List Msg) (x58 : List Msg) (x59 : Int) (x60 : Int) (b49000_0 : Int) (b49000_1 : Int) (b49000_2 : Int) (b49000_3 : List (Key × Bool)) (b49000_4 : List Msg) (b49000_5 : List Msg) (k3 : (List Msg) → (List Msg) → Int → Int → Int → (List (Key × Bool)) → (List Msg) → (List Msg) → R) (k6 : (List Bool) → (List Msg) → (List Msg) → Int → (List Msg) → Int → Int → Int → Int → Int → (List (Key × Bool)) → (List Msg) → (List Msg) → R) : R :=
  condB (ilt x60 x59) (chk (inb x60 (List.length x58)) (chk (nle (List.length b49000_5) 90000) (chk (fsOk ⟨b49000_0, b49000_1, b49000_2, b49000_3, b49000_4, b49000_5⟩) (condB ((putE ⟨b49000_0, b49000_1, b49000_2, b49000_3, b49000_4, b49000_5⟩ (List.getD x58 (Int.toNat x60) d_msg)) == (0 : Int)) (chk (nle ((List.length put9 + List.length ([(List.getD x58 (Int.toNat x60) d_msg)] : List Msg)) * 48) 140737488355328 && nle (List.length put9 + List.length ([(List.getD x58 (Int.toNat x60) d_msg)] : List Msg)) 9223372036854775807) (condB (ilt ((FS.mk_ (putS ⟨b49000_0, b49000_1, b49000_2, b49000_3, b49000_4, b49000_5⟩ (List.getD x58 (Int.toNat x60) d_msg)))) (b49000_1)) (some ((.bool false), [])) (chk (nle (List.length (FS.lt (putS ⟨b49000_0, b49000_1, b49000_2, b49000_3, b49000_4, b49000_5⟩ (List.getD x58 (Int.toNat x60) d_msg)))) 90000) (condB ((Int.ofNat (List.length ((FS.lt (putS ⟨b49000_0, b49000_1, b49000_2, b49000_3, b49000_4, b49000_5⟩ (List.getD x58 (Int.toNat x60) d_msg)))))) != (Int.ofNat (List.length (b49000_5)))) (condB (ile (b49000_1) ((List.getD x58 (Int.toNat x60) d_msg).at_)) (some ((.bool false), [])) (chk (nle (List.length (FS.lt (putS ⟨b49000_0, b49000_1, b49000_2, b49000_3, b49000_4, b49000_5⟩ (List.getD x58 (Int.toNat x60) d_msg)))) 90000) (condB ((Int.ofNat (List.length ((FS.lt (putS ⟨b49000_0, b49000_1, b49000_2, b49000_3, b49000_4, b49000_5⟩ (List.getD x58 (Int.toNat x60) d_msg)))))) == (Int.ofNat (List.length (b49000_5)))) (condB (ilt ((List.getD x58 (Int.toNat x60) d_msg).at_) (b49000_1)) (some ((.bool false), [])) (k6 take2 (put9 ++ ([(List.getD x58 (Int.toNat x60) d_msg)] : List Msg)) out10 x60 x58 x59 x60 b49000_0 (FS.mk_ (putS ⟨b49000_0, b49000_1, b49000_2, b49000_3, b49000_4, b49000_5⟩ (List.getD x58 (Int.toNat x60) d_msg))) (FS.ls (putS ⟨b49000_0, b49000_1, b49000_2, b49000_3, b49000_4, b49000_5⟩ (List.getD x58 (Int.toNat x60) d_msg))) (FS.got (putS ⟨b49000_0, b49000_1, b49000_2, b49000_3, b49000_4, b49000_5⟩ (List.getD x58 (Int.toNat x60) d_msg))) (FS.wt (putS ⟨b49000_0, b49000_1, b49000_2, b49000_3, b49000_4, b49000_5⟩ (List.getD x58 (Int.toNat x60) d_msg))) (FS.lt (putS ⟨b49000_0, b49000_1, b49000_2, b49000_3, b49000_4, b49000_5⟩ (List.getD x58 (Int.toNat x60) d_msg))))) (k6 take2 (put9 ++ ([(List.getD x58 (Int.toNat x60) d_msg)] : List Msg)) out10 x60 x58 x59 x60 b49000_0 (FS.mk_ (putS ⟨b49000_0, b49000_1, b49000_2, b49000_3, b49000_4, b49000_5⟩ (List.getD x58 (Int.toNat x60) d_msg))) (FS.ls (putS ⟨b49000_0, b49000_1, b49000_2, b49000_3, b49000_4, b49000_5⟩ (List.getD x58 (Int.toNat x60) d_msg))) (FS.got (putS ⟨b49000_0, b49000_1, b49000_2, b49000_3, b49000_4, b49000_5⟩ (List.getD x58 (Int.toNat x60) d_msg))) (FS.wt (putS ⟨b49000_0, b49000_1, b49000_2, b49000_3, b49000_4, b49000_5⟩ (List.getD x58 (Int.toNat x60) d_msg))) (FS.lt (putS ⟨b49000_0, b49000_1, b49000_2, b49000_3, b49000_4, b49000_5⟩ (List.getD x58 (Int.toNat x60) d_msg))))))) (chk (nle (List.length (FS.lt (putS ⟨b49000_0, b49000_1, b49000_2, b49000_3, b49000_4, b49000_5⟩ (List.getD x58 (Int.toNat x60) d_msg)))) 90000) (condB ((Int.ofNat (List.length ((FS.lt (putS ⟨b49000_0, b49000_1, b49000_2, b49000_3, b49000_4, b49000_5⟩ (List.getD x58 (Int.toNat x60) d_msg)))))) == (Int.ofNat (List.length (b49000_5)))) (condB (ilt ((List.getD x58 (Int.toNat x60) d_msg).at_) (b49000_1)) (some ((.bool false), [])) (k6 take2 (put9 ++ ([(List.getD x58 (Int.toNat x60) d_msg)] : List Msg)) out10 x60 x58 x59 x60 b49000_0 (FS.mk_ (putS ⟨b49000_0, b49000_1, b49000_2, b49000_3, b49000_4, b49000_5⟩ (List.getD x58 (Int.toNat x60) d_msg))) (FS.ls (putS ⟨b49000_0, b49000_1, b49000_2, b49000_3, b49000_4, b49000_5⟩ (List.getD x58 (Int.toNat x60) d_msg))) (FS.got (putS ⟨b49000_0, b49000_1, b49000_2, b49000_3, b49000_4, b49000_5⟩ (List.getD x58 (Int.toNat x60) d_msg))) (FS.wt (putS ⟨b49000_0, b49000_1, b49000_2, b49000_3, b49000_4, b49000_5⟩ (List.getD x58 (Int.toNat x60) d_msg))) (FS.lt (putS ⟨b49000_0, b49000_1, b49000_2, b49000_3, b49000_4, b49000_5⟩ (List.getD x58 (Int.toNat x60) d_msg))))) (k6 take2 (put9 ++ ([(List.getD x58 (Int.toNat x60) d_msg)] : List Msg)) out10 x60 x58 x59 x60 b49000_0 (FS.mk_ (putS ⟨b49000_0, b49000_1, b49000_2, b49000_3, b49000_4, b49000_5⟩ (List.getD x58 (Int.toNat x60) d_msg))) (FS.ls (putS ⟨b49000_0, b49000_1, b49000_2, b49000_3, b49000_4, b49000_5⟩ (List.getD x58 (Int.toNat x60) d_msg))) (FS.got (putS ⟨b49000_0, b49000_1, b49000_2, b49000_3, b49000_4, b49000_5⟩ (List.getD x58 (Int.toNat x60) d_msg))) (FS.wt (putS ⟨b49000_0, b49000_1, b49000_2, b49000_3, b49000_4, b49000_5⟩ (List.getD x58 (Int.toNat x60) d_msg))) (FS.lt (putS ⟨b49000_0, b49000_1, b49000_2, b49000_3, b49000_4, b49000_5⟩ (List.getD x58 (Int.toNat x60) d_msg)))))))))) (condB (((FS.mk_ (putS ⟨b49000_0, b49000_1, b49000_2, b49000_3, b49000_4, b49000_5⟩ (List.getD x58 (Int.toNat x60) d_msg)))) != (b49000_1)) (some ((.bool false), [])) (chk (nle (List.length (FS.lt (putS ⟨b49000_0, b49000_1, b49000_2, b49000_3, b49000_4, b49000_5⟩ (List.getD x58 (Int.toNat x60) d_msg)))) 90000) (condB ((Int.ofNat (List.length ((FS.lt (putS ⟨b49000_0, b49000_1, b49000_2, b49000_3, b49000_4, b49000_5⟩ (List.getD x58 (Int.toNat x60) d_msg)))))) != (Int.ofNat (List.length (b49000_5)))) (some ((.bool false), [])) (k6 take2 put9 out10 x60 x58 x59 x60 b49000_0 (FS.mk_ (putS ⟨b49000_0, b49000_1, b49000_2, b49000_3, b49000_4, b49000_5⟩ (List.getD x58 (Int.toNat x60) d_msg))) (FS.ls (putS ⟨b49000_0, b49000_1, b49000_2, b49000_3, b49000_4, b49000_5⟩ (List.getD x58 (Int.toNat x60) d_msg))) (FS.got (putS ⟨b49000_0, b49000_1, b49000_2, b49000_3, b49000_4, b49000_5⟩ (List.getD x58 (Int.toNat x60) d_msg))) (FS.wt (putS ⟨b49000_0, b49000_1, b49000_2, b49000_3, b49000_4, b49000_5⟩ (List.getD x58 (Int.toNat x60) d_msg))) (FS.lt (putS ⟨b49000_0, b49000_1, b49000_2, b49000_3, b49000_4, b49000_5⟩ (List.getD x58 (Int.toNat x60) d_msg))))))))))) (k3 put9 out10 b49000_0 b49000_1 b49000_2 b49000_3 b49000_4 b49000_5)
noncomputable def sh5 (take2 : List Bool) (put9 : List Msg) (out10 : List Msg) (x58 : List Msg) (x59 : Int) (x60 : Int) (b49000_0 : Int) (b49000_1 : Int) (b49000_2 : Int) (b49000_3 : List (Key × Bool)) (b49000_4 : List Msg) (b49000_5 : List Msg) (k4 : (List Bool) → (List Msg) → (List Msg) → (List Msg) → Int → Int → Int → Int → Int → (List (Key × Bool)) → (List Msg) → (List Msg) → R) : R :=
  k4 take2 put9 out10 x58 x59 (IntKind.wrap .i64 (x60 + (1 : Int))) b49000_0 b49000_1 b49000_2 b49000_3 b49000_4 b49000_5
noncomputable def sh6 (take2 : List Bool) (put9 : List Msg) (out10 : List Msg) (i11 : Int) (x58 : List Msg) (x59 : Int) (x60 : Int) (b49000_0 : Int) (b49000_1 : Int) (b49000_2 : Int) (b49000_3 : List (Key × Bool)) (b49000_4 : List Msg) (b49000_5 : List Msg) (k5 : (List Bool) → (List Msg) → (List Msg) → (List Msg) → Int → Int → Int → Int → Int → (List (Key × Bool)) → (List Msg) → (List Msg) → R) (k8 : (List Bool) → (List Msg) → (List Msg) → (List Msg) → (List Msg) → Int → Int → Int → Int → Int → Int → Int → (List (Key × Bool)) → (List Msg) → (List Msg) → R) : R :=
  condB (ilt i11 (Int.ofNat (List.length take2))) (chk (inb i11 (List.length take2)) (condB (List.getD take2 (Int.toNat i11) d_bool) (chk ((keysB b49000_4 && nle (List.length b49000_4) 90000)) (k8 take2 put9 out10 (sortM (List.filter (fun m => ilt (Msg.at_ m) b49000_1) b49000_4)) x58 x59 x60 (Int.ofNat (List.length (sortM (List.filter (fun m => ilt (Msg.at_ m) b49000_1) b49000_4)))) (0 : Int) b49000_0 b49000_1 b49000_2 b49000_3 (List.filter (fun m => !(ilt (Msg.at_ m) b49000_1)) b49000_4) b49000_5)) (k5 take2 put9 out10 x58 x59 x60 b49000_0 b49000_1 b49000_2 b49000_3 b49000_4 b49000_5))) (k5 take2 put9 out10 x58 x59 x60 b49000_0 b49000_1 b49000_2 b49000_3 b49000_4 b49000_5)
noncomputable def sh7 (take2 : List Bool) (put9 : List Msg) (out10 : List Msg) (ready15 : List Msg) (x58 : List Msg) (x59 : Int) (x60 : Int) (b49000_0 : Int) (b49000_1 : Int) (b49000_2 : Int) (b49000_3 : List (Key × Bool)) (b49000_4 : List Msg) (b49000_5 : List Msg) (k5 : (List Bool) → (List Msg) → (List Msg) → (List Msg) → Int → Int → Int → Int → Int → (List (Key × Bool)) → (List Msg) → (List Msg) → R) : R :=
  chk (nle ((List.length out10 + List.length ready15) * 48) 140737488355328 && nle (List.length out10 + List.length ready15) 9223372036854775807) (k5 take2 put9 (out10 ++ ready15) x58 x59 x60 b49000_0 b49000_1 b49000_2 b49000_3 b49000_4 b49000_5)
noncomputable def sh8 (take2 : List Bool) (put9 : List Msg) (out10 : List Msg) (ready15 : List Msg) (x58 : List Msg) (x59 : Int) (x60 : Int) (x132 : Int) (x133 : Int) (b49000_0 : Int) (b49000_1 : Int) (b49000_2 : Int) (b49000_3 : List (Key × Bool)) (b49000_4 : List Msg) (b49000_5 : List Msg) (k7 : (List Bool) → (List Msg) → (List Msg) → (List Msg) → (List Msg) → Int → Int → Int → Int → Int → (List (Key × Bool)) → (List Msg) → (List Msg) → R) (k8 : (List Bool) → (List Msg) → (List Msg) → (List Msg) → (List Msg) → Int → Int → Int → Int → Int → Int → Int → (List (Key × Bool)) → (List Msg) → (List Msg) → R) : R :=
  condB (ilt x133 x132) (chk (inb x133 (List.length ready15)) (chk (nlt (Int.toNat x133) (List.length ready15)) (condB (ile (b49000_1) ((List.getD ready15 (Int.toNat x133) d_msg).at_)) (some ((.bool false), [])) (k8 take2 put9 out10 ready15 x58 x59 x60 x132 (IntKind.wrap .i64 (x133 + (1 : Int))) b49000_0 b49000_1 b49000_2 b49000_3 b49000_4 b49000_5)))) (k7 take2 put9 out10 ready15 x58 x59 x60 b49000_0 b49000_1 b49000_2 b49000_3 b49000_4 b49000_5)
noncomputable def sh9 (put9 : List Msg) (out10 : List Msg) (b49000_0 : Int) (b49000_1 : Int) (b49000_2 : Int) (b49000_3 : List (Key × Bool)) (b49000_4 : List Msg) (b49000_5 : List Msg) (k13 : (List Msg) → (List Msg) → (List Msg) → Int → Int → Int → Int → Int → Int → (List (Key × Bool)) → (List Msg) → (List Msg) → R) : R :=
  chk (nle (List.length b49000_5) 90000) (k13 put9 out10 (b49000_5) (0 : Int) (Int.ofNat (List.length put9)) (0 : Int) b49000_0 b49000_1 b49000_2 b49000_3 b49000_4 b49000_5)
noncomputable def sh10 (put9 : List Msg) (out10 : List Msg) (x152 : Int) (x153 : Int) (b49000_0 : Int) (b49000_1 : Int) (b49000_2 : Int) (b49000_3 : List (Key × Bool)) (b49000_4 : List Msg) (b49000_5 : List Msg) (k9 : (List Msg) → (List Msg) → Int → Int → Int → (List (Key × Bool)) → (List Msg) → (List Msg) → R) (k11 : (List Msg) → (List Msg) → Int → Int → Int → Int → Int → (List (Key × Bool)) → (List Msg) → (List Msg) → R) : R :=
  condB (ilt x153 x152) (condB (ilt (0 : Int) x153) (chk (inb (IntKind.wrap .i64 (x153 - (1 : Int))) (List.length out10)) (chk (nlt (Int.toNat (IntKind.wrap .i64 (x153 - (1 : Int)))) (List.length out10)) (chk (inb x153 (List.length out10)) (chk (nlt (Int.toNat x153) (List.length out10)) (condB (!(beforeB (List.getD out10 (Int.toNat (IntKind.wrap .i64 (x153 - (1 : Int)))) d_msg) (List.getD out10 (Int.toNat x153) d_msg))) (some ((.bool false), [])) (k11 put9 out10 x152 x153 b49000_0 b49000_1 b49000_2 b49000_3 b49000_4 b49000_5)))))) (k11 put9 out10 x152 x153 b49000_0 b49000_1 b49000_2 b49000_3 b49000_4 b49000_5)) (k9 put9 out10 b49000_0 b49000_1 b49000_2 b49000_3 b49000_4 b49000_5)
noncomputable def sh11 (put9 : List Msg) (out10 : List Msg) (x152 : Int) (x153 : Int) (b49000_0 : Int) (b49000_1 : Int) (b49000_2 : Int) (b49000_3 : List (Key × Bool)) (b49000_4 : List Msg) (b49000_5 : List Msg) (k10 : (List Msg) → (List Msg) → Int → Int → Int → Int → Int → (List (Key × Bool)) → (List Msg) → (List Msg) → R) : R :=
  k10 put9 out10 x152 (IntKind.wrap .i64 (x153 + (1 : Int))) b49000_0 b49000_1 b49000_2 b49000_3 b49000_4 b49000_5
noncomputable def sh12 (put9 : List Msg) (out10 : List Msg) (late19 : List Msg) (rest20 : Int) : R :=
  some ((.bool ((IntKind.wrap .i64 ((IntKind.wrap .i64 ((Int.ofNat (List.length out10)) + (Int.ofNat (List.length late19)))) + rest20)) == (Int.ofNat (List.length put9)))), [])
noncomputable def sh13 (put9 : List Msg) (out10 : List Msg) (late19 : List Msg) (rest20 : Int) (x175 : Int) (x176 : Int) (b49000_0 : Int) (b49000_1 : Int) (b49000_2 : Int) (b49000_3 : List (Key × Bool)) (b49000_4 : List Msg) (b49000_5 : List Msg) (k12 : (List Msg) → (List Msg) → (List Msg) → Int → R) (k15 : (List Msg) → (List Msg) → (List Msg) → Int → Bool → Bool → Int → Int → Int → Int → Int → (List (Key × Bool)) → (List Msg) → (List Msg) → R) : R :=
  condB (ilt x176 x175) (chk (inb x176 (List.length put9)) (chk (nlt (Int.toNat x176) (List.length put9)) (chk (nle (List.length out10) 90000) (chk (nle (List.length late19) 90000) (condB (ile 0 (idxZ (List.getD put9 (Int.toNat x176) d_msg) out10)) (condB (ile 0 (idxZ (List.getD put9 (Int.toNat x176) d_msg) late19)) (some ((.bool false), [])) (condB (!(ile 0 (idxZ (List.getD put9 (Int.toNat x176) d_msg) out10))) (condB (!(ile 0 (idxZ (List.getD put9 (Int.toNat x176) d_msg) late19))) (condB (ilt ((List.getD put9 (Int.toNat x176) d_msg).at_) (b49000_1)) (some ((.bool false), [])) (k15 put9 out10 late19 rest20 (ile 0 (idxZ (List.getD put9 (Int.toNat x176) d_msg) out10)) (ile 0 (idxZ (List.getD put9 (Int.toNat x176) d_msg) late19)) x175 x176 b49000_0 b49000_1 b49000_2 b49000_3 b49000_4 b49000_5)) (k15 put9 out10 late19 rest20 (ile 0 (idxZ (List.getD put9 (Int.toNat x176) d_msg) out10)) (ile 0 (idxZ (List.getD put9 (Int.toNat x176) d_msg) late19)) x175 x176 b49000_0 b49000_1 b49000_2 b49000_3 b49000_4 b49000_5)) (k15 put9 out10 late19 rest20 (ile 0 (idxZ (List.getD put9 (Int.toNat x176) d_msg) out10)) (ile 0 (idxZ (List.getD put9 (Int.toNat x176) d_msg) late19)) x175 x176 b49000_0 b49000_1 b49000_2 b49000_3 b49000_4 b49000_5))) (condB (!(ile 0 (idxZ (List.getD put9 (Int.toNat x176) d_msg) out10))) (condB (!(ile 0 (idxZ (List.getD put9 (Int.toNat x176) d_msg) late19))) (condB (ilt ((List.getD put9 (Int.toNat x176) d_msg).at_) (b49000_1)) (some ((.bool false), [])) (k15 put9 out10 late19 rest20 (ile 0 (idxZ (List.getD put9 (Int.toNat x176) d_msg) out10)) (ile 0 (idxZ (List.getD put9 (Int.toNat x176) d_msg) late19)) x175 x176 b49000_0 b49000_1 b49000_2 b49000_3 b49000_4 b49000_5)) (k15 put9 out10 late19 rest20 (ile 0 (idxZ (List.getD put9 (Int.toNat x176) d_msg) out10)) (ile 0 (idxZ (List.getD put9 (Int.toNat x176) d_msg) late19)) x175 x176 b49000_0 b49000_1 b49000_2 b49000_3 b49000_4 b49000_5)) (k15 put9 out10 late19 rest20 (ile 0 (idxZ (List.getD put9 (Int.toNat x176) d_msg) out10)) (ile 0 (idxZ (List.getD put9 (Int.toNat x176) d_msg) late19)) x175 x176 b49000_0 b49000_1 b49000_2 b49000_3 b49000_4 b49000_5))))))) (k12 put9 out10 late19 rest20)
noncomputable def sh14 (put9 : List Msg) (out10 : List Msg) (late19 : List Msg) (rest20 : Int) (x175 : Int) (x176 : Int) (b49000_0 : Int) (b49000_1 : Int) (b49000_2 : Int) (b49000_3 : List (Key × Bool)) (b49000_4 : List Msg) (b49000_5 : List Msg) (k13 : (List Msg) → (List Msg) → (List Msg) → Int → Int → Int → Int → Int → Int → (List (Key × Bool)) → (List Msg) → (List Msg) → R) : R :=
  k13 put9 out10 late19 rest20 x175 (IntKind.wrap .i64 (x176 + (1 : Int))) b49000_0 b49000_1 b49000_2 b49000_3 b49000_4 b49000_5
noncomputable def sh15 (put9 : List Msg) (out10 : List Msg) (late19 : List Msg) (rest20 : Int) (a23 : Bool) (b24 : Bool) (x175 : Int) (x176 : Int) (b49000_0 : Int) (b49000_1 : Int) (b49000_2 : Int) (b49000_3 : List (Key × Bool)) (b49000_4 : List Msg) (b49000_5 : List Msg) (k14 : (List Msg) → (List Msg) → (List Msg) → Int → Int → Int → Int → Int → Int → (List (Key × Bool)) → (List Msg) → (List Msg) → R) : R :=
  condB (!a23) (condB (!b24) (k14 put9 out10 late19 (IntKind.wrap .i64 (rest20 + (1 : Int))) x175 x176 b49000_0 b49000_1 b49000_2 b49000_3 b49000_4 b49000_5) (k14 put9 out10 late19 rest20 x175 x176 b49000_0 b49000_1 b49000_2 b49000_3 b49000_4 b49000_5)) (k14 put9 out10 late19 rest20 x175 x176 b49000_0 b49000_1 b49000_2 b49000_3 b49000_4 b49000_5)
noncomputable def it4 (Kb3 : Kont U El) (n : Nat) : Kont U El := iter nm4 (fun st' K' => exec X (cdp [1, 1, 1, 1, 1, 1, 0, 1, 0, 0] bd) (.seq none .d (.seq none .d (.seq (some nm5) (.block (.seq none .d (.seq none .d (.seq none .d (.seq (some nm6) .d (.seq none .d (.cond (.seq none .d (.seq (some nm7) (.seq none .d (.block (.loop nm8 (.seq none .d (.seq none .d (.seq none (.block (.seq none .d (.seq none (.region [(3, 49000), (3, 504900003), (3, 504900004), (3, 504900005)]) .d))) .d)))))) .d)) .d))))))) .d))) st' K' (Eblk 0 (cutK nm3 Kb3) (fun _ _ => none)) RR) n
noncomputable def it8 (Kb3 : Kont U El) (Kb5 : Kont U El) (Kb7 : Kont U El) (n : Nat) : Kont U El := iter nm8 (fun st' K' => exec X (cdp [1, 1, 1, 1, 1, 1, 0, 1, 0, 0, 1, 1, 0, 0, 1, 1, 1, 1, 1, 0, 1, 0, 1, 0, 0] bd) (.seq none .d (.seq none .d (.seq none (.block (.seq none .d (.seq none (.region [(3, 49000), (3, 504900003), (3, 504900004), (3, 504900005)]) .d))) .d))) st' K' (Eblk 2 (cutK nm7 Kb7) (Eblk 1 (cutK nm5 Kb5) (Eblk 0 (cutK nm3 Kb3) (fun _ _ => none)))) RR) n
noncomputable def it10 (Kb9 : Kont U El) (n : Nat) : Kont U El := iter nm10 (fun st' K' => exec X (cdp [1, 1, 1, 1, 1, 1, 1, 1, 0, 1, 0, 0] bd) (.seq none .d (.seq none .d (.seq (some nm11) .d .d))) st' K' (Eblk 4 (cutK nm9 Kb9) (fun _ _ => none)) RR) n
noncomputable def it13 (Kb12 : Kont U El) (n : Nat) : Kont U El := iter nm13 (fun st' K' => exec X (cdp [1, 1, 1, 1, 1, 1, 1, 1, 1, 1, 1, 0, 1, 0, 0] bd) (.seq none .d (.seq none .d (.seq (some nm14) (.block (.seq none .d (.seq none .d (.seq (some nm15) (.seq none (.region [(15, 49000), (15, 504900003), (15, 504900004), (15, 504900005)]) .d) .d)))) .d))) st' K' (Eblk 6 (cutK nm12 Kb12) (fun _ _ => none)) RR) n
noncomputable def ct1 : Kont U El := fun st => exec X (cdp [1, 1, 1] bd) (.seq none .d (.seq (some nm2) .d (.seq none .d (.seq (some nm3) (.seq none .d (.block (.loop nm4 (.seq none .d (.seq none .d (.seq (some nm5) (.block (.seq none .d (.seq none .d (.seq none .d (.seq (some nm6) .d (.seq none .d (.cond (.seq none .d (.seq (some nm7) (.seq none .d (.block (.loop nm8 (.seq none .d (.seq none .d (.seq none (.block (.seq none .d (.seq none (.region [(3, 49000), (3, 504900003), (3, 504900004), (3, 504900005)]) .d))) .d)))))) .d)) .d))))))) .d)))))) (.seq none .d (.seq (some nm9) (.seq none .d (.block (.loop nm10 (.seq none .d (.seq none .d (.seq (some nm11) .d .d)))))) (.seq none .d (.seq none .d (.seq (some nm12) (.seq none .d (.block (.loop nm13 (.seq none .d (.seq none .d (.seq (some nm14) (.block (.seq none .d (.seq none .d (.seq (some nm15) (.seq none (.region [(15, 49000), (15, 504900003), (15, 504900004), (15, 504900005)]) .d) .d)))) .d)))))) .d))))))))) st RR (fun _ _ => none) RR
noncomputable def ct2 : Kont U El := fun st => exec X (cdp [1, 1, 1, 1, 1] bd) (.seq none .d (.seq (some nm3) (.seq none .d (.block (.loop nm4 (.seq none .d (.seq none .d (.seq (some nm5) (.block (.seq none .d (.seq none .d (.seq none .d (.seq (some nm6) .d (.seq none .d (.cond (.seq none .d (.seq (some nm7) (.seq none .d (.block (.loop nm8 (.seq none .d (.seq none .d (.seq none (.block (.seq none .d (.seq none (.region [(3, 49000), (3, 504900003), (3, 504900004), (3, 504900005)]) .d))) .d)))))) .d)) .d))))))) .d)))))) (.seq none .d (.seq (some nm9) (.seq none .d (.block (.loop nm10 (.seq none .d (.seq none .d (.seq (some nm11) .d .d)))))) (.seq none .d (.seq none .d (.seq (some nm12) (.seq none .d (.block (.loop nm13 (.seq none .d (.seq none .d (.seq (some nm14) (.block (.seq none .d (.seq none .d (.seq (some nm15) (.seq none (.region [(15, 49000), (15, 504900003), (15, 504900004), (15, 504900005)]) .d) .d)))) .d)))))) .d))))))) st RR (fun _ _ => none) RR
noncomputable def ct3 : Kont U El := fun st => exec X (cdp [1, 1, 1, 1, 1, 1, 1] bd) (.seq none .d (.seq (some nm9) (.seq none .d (.block (.loop nm10 (.seq none .d (.seq none .d (.seq (some nm11) .d .d)))))) (.seq none .d (.seq none .d (.seq (some nm12) (.seq none .d (.block (.loop nm13 (.seq none .d (.seq none .d (.seq (some nm14) (.block (.seq none .d (.seq none .d (.seq (some nm15) (.seq none (.region [(15, 49000), (15, 504900003), (15, 504900004), (15, 504900005)]) .d) .d)))) .d)))))) .d))))) st RR (fun _ _ => none) RR
noncomputable def ct5 (Kb3 : Kont U El) (Kb4 : Kont U El) : Kont U El := fun st => exec X (cdp [1, 1, 1, 1, 1, 1, 0, 1, 0, 0, 1, 1, 1] bd) .d st (cutK nm4 Kb4) (Eblk 0 (cutK nm3 Kb3) (fun _ _ => none)) RR
noncomputable def ct6 (Kb3 : Kont U El) (Kb5 : Kont U El) : Kont U El := fun st => exec X (cdp [1, 1, 1, 1, 1, 1, 0, 1, 0, 0, 1, 1, 0, 0, 1, 1, 1, 1] bd) (.seq none .d (.cond (.seq none .d (.seq (some nm7) (.seq none .d (.block (.loop nm8 (.seq none .d (.seq none .d (.seq none (.block (.seq none .d (.seq none (.region [(3, 49000), (3, 504900003), (3, 504900004), (3, 504900005)]) .d))) .d)))))) .d)) .d)) st (cutK nm5 Kb5) (Eblk 1 (cutK nm5 Kb5) (Eblk 0 (cutK nm3 Kb3) (fun _ _ => none))) RR
noncomputable def ct7 (Kb3 : Kont U El) (Kb5 : Kont U El) : Kont U El := fun st => exec X (cdp [1, 1, 1, 1, 1, 1, 0, 1, 0, 0, 1, 1, 0, 0, 1, 1, 1, 1, 1, 0, 1, 1] bd) .d st (cutK nm5 Kb5) (Eblk 1 (cutK nm5 Kb5) (Eblk 0 (cutK nm3 Kb3) (fun _ _ => none))) RR
noncomputable def ct9 : Kont U El := fun st => exec X (cdp [1, 1, 1, 1, 1, 1, 1, 1, 1] bd) (.seq none .d (.seq none .d (.seq (some nm12) (.seq none .d (.block (.loop nm13 (.seq none .d (.seq none .d (.seq (some nm14) (.block (.seq none .d (.seq none .d (.seq (some nm15) (.seq none (.region [(15, 49000), (15, 504900003), (15, 504900004), (15, 504900005)]) .d) .d)))) .d)))))) .d))) st RR (fun _ _ => none) RR
noncomputable def ct11 (Kb9 : Kont U El) (Kb10 : Kont U El) : Kont U El := fun st => exec X (cdp [1, 1, 1, 1, 1, 1, 1, 1, 0, 1, 0, 0, 1, 1, 1] bd) .d st (cutK nm10 Kb10) (Eblk 4 (cutK nm9 Kb9) (fun _ _ => none)) RR
noncomputable def ct12 : Kont U El := fun st => exec X (cdp [1, 1, 1, 1, 1, 1, 1, 1, 1, 1, 1, 1] bd) .d st RR (fun _ _ => none) RR
noncomputable def ct14 (Kb12 : Kont U El) (Kb13 : Kont U El) : Kont U El := fun st => exec X (cdp [1, 1, 1, 1, 1, 1, 1, 1, 1, 1, 1, 0, 1, 0, 0, 1, 1, 1] bd) .d st (cutK nm13 Kb13) (Eblk 6 (cutK nm12 Kb12) (fun _ _ => none)) RR
noncomputable def ct15 (Kb12 : Kont U El) (Kb14 : Kont U El) : Kont U El := fun st => exec X (cdp [1, 1, 1, 1, 1, 1, 1, 1, 1, 1, 1, 0, 1, 0, 0, 1, 1, 0, 0, 1, 1, 1] bd) .d st (cutK nm14 Kb14) (Eblk 7 (cutK nm14 Kb14) (Eblk 6 (cutK nm12 Kb12) (fun _ _ => none))) RR
theorem P0 (d : Int) (l : List Msg) (tk : List Bool) : exec X (cdp [] bd) (.seq none .d (.seq none .d (.seq (some nm1) .d (.seq none .d (.seq (some nm2) .d (.seq none .d (.seq (some nm3) (.seq none .d (.block (.loop nm4 (.seq none .d (.seq none .d (.seq (some nm5) (.block (.seq none .d (.seq none .d (.seq none .d (.seq (some nm6) .d (.seq none .d (.cond (.seq none .d (.seq (some nm7) (.seq none .d (.block (.loop nm8 (.seq none .d (.seq none .d (.seq none (.block (.seq none .d (.seq none (.region [(3, 49000), (3, 504900003), (3, 504900004), (3, 504900005)]) .d))) .d)))))) .d)) .d))))))) .d)))))) (.seq none .d (.seq (some nm9) (.seq none .d (.block (.loop nm10 (.seq none .d (.seq none .d (.seq (some nm11) .d .d)))))) (.seq none .d (.seq none .d (.seq (some nm12) (.seq none .d (.block (.loop nm13 (.seq none .d (.seq none .d (.seq (some nm14) (.block (.seq none .d (.seq none .d (.seq (some nm15) (.seq none (.region [(15, 49000), (15, 504900003), (15, 504900004), (15, 504900005)]) .d) .d)))) .d)))))) .d)))))))))))) (fr0 d l tk) RR (fun _ _ => none) RR = sh0 d l tk (fun y0 y1 y2 => (hid ct1) (fr1 y0 y1 y2)) := by kernel_rfl
theorem P1 (delay0 : Int) (l1 : List Msg) (take2 : List Bool) : exec X (cdp [1, 1, 1] bd) (.seq none .d (.seq (some nm2) .d (.seq none .d (.seq (some nm3) (.seq none .d (.block (.loop nm4 (.seq none .d (.seq none .d (.seq (some nm5) (.block (.seq none .d (.seq none .d (.seq none .d (.seq (some nm6) .d (.seq none .d (.cond (.seq none .d (.seq (some nm7) (.seq none .d (.block (.loop nm8 (.seq none .d (.seq none .d (.seq none (.block (.seq none .d (.seq none (.region [(3, 49000), (3, 504900003), (3, 504900004), (3, 504900005)]) .d))) .d)))))) .d)) .d))))))) .d)))))) (.seq none .d (.seq (some nm9) (.seq none .d (.block (.loop nm10 (.seq none .d (.seq none .d (.seq (some nm11) .d .d)))))) (.seq none .d (.seq none .d (.seq (some nm12) (.seq none .d (.block (.loop nm13 (.seq none .d (.seq none .d (.seq (some nm14) (.block (.seq none .d (.seq none .d (.seq (some nm15) (.seq none (.region [(15, 49000), (15, 504900003), (15, 504900004), (15, 504900005)]) .d) .d)))) .d)))))) .d))))))))) (fr1 delay0 l1 take2) RR (fun _ _ => none) RR = sh1 delay0 l1 take2 (fun y0 y1 y2 y3 y4 y5 y6 y7 => (hid ct2) (fr2 y0 y1 y2 y3 y4 y5 y6 y7)) := by kernel_rfl
theorem P2 (l1 : List Msg) (take2 : List Bool) (b49000_0 : Int) (b49000_1 : Int) (b49000_2 : Int) (b49000_3 : List (Key × Bool)) (b49000_4 : List Msg) (b49000_5 : List Msg) : exec X (cdp [1, 1, 1, 1, 1] bd) (.seq none .d (.seq (some nm3) (.seq none .d (.block (.loop nm4 (.seq none .d (.seq none .d (.seq (some nm5) (.block (.seq none .d (.seq none .d (.seq none .d (.seq (some nm6) .d (.seq none .d (.cond (.seq none .d (.seq (some nm7) (.seq none .d (.block (.loop nm8 (.seq none .d (.seq none .d (.seq none (.block (.seq none .d (.seq none (.region [(3, 49000), (3, 504900003), (3, 504900004), (3, 504900005)]) .d))) .d)))))) .d)) .d))))))) .d)))))) (.seq none .d (.seq (some nm9) (.seq none .d (.block (.loop nm10 (.seq none .d (.seq none .d (.seq (some nm11) .d .d)))))) (.seq none .d (.seq none .d (.seq (some nm12) (.seq none .d (.block (.loop nm13 (.seq none .d (.seq none .d (.seq (some nm14) (.block (.seq none .d (.seq none .d (.seq (some nm15) (.seq none (.region [(15, 49000), (15, 504900003), (15, 504900004), (15, 504900005)]) .d) .d)))) .d)))))) .d))))))) (fr2 l1 take2 b49000_0 b49000_1 b49000_2 b49000_3 b49000_4 b49000_5) RR (fun _ _ => none) RR = sh2 l1 take2 b49000_0 b49000_1 b49000_2 b49000_3 b49000_4 b49000_5 (fun y0 y1 y2 y3 y4 y5 y6 y7 y8 y9 y10 y11 => (hid (it4 (hid ct3) 100000)) (fr4 y0 y1 y2 y3 y4 y5 y6 y7 y8 y9 y10 y11)) := by kernel_rfl
theorem P3 (put9 : List Msg) (out10 : List Msg) (b49000_0 : Int) (b49000_1 : Int) (b49000_2 : Int) (b49000_3 : List (Key × Bool)) (b49000_4 : List Msg) (b49000_5 : List Msg) : exec X (cdp [1, 1, 1, 1, 1, 1, 1] bd) (.seq none .d (.seq (some nm9) (.seq none .d (.block (.loop nm10 (.seq none .d (.seq none .d (.seq (some nm11) .d .d)))))) (.seq none .d (.seq none .d (.seq (some nm12) (.seq none .d (.block (.loop nm13 (.seq none .d (.seq none .d (.seq (some nm14) (.block (.seq none .d (.seq none .d (.seq (some nm15) (.seq none (.region [(15, 49000), (15, 504900003), (15, 504900004), (15, 504900005)]) .d) .d)))) .d)))))) .d))))) (fr3 put9 out10 b49000_0 b49000_1 b49000_2 b49000_3 b49000_4 b49000_5) RR (fun _ _ => none) RR = sh3 put9 out10 b49000_0 b49000_1 b49000_2 b49000_3 b49000_4 b49000_5 (fun y0 y1 y2 y3 y4 y5 y6 y7 y8 y9 => (hid (it10 (hid ct9) 100000)) (fr10 y0 y1 y2 y3 y4 y5 y6 y7 y8 y9)) := by kernel_rfl
theorem P4 (take2 : List Bool) (put9 : List Msg) (out10 : List Msg) (x58 : List Msg) (x59 : Int) (x60 : Int) (b49000_0 : Int) (b49000_1 : Int) (b49000_2 : Int) (b49000_3 : List (Key × Bool)) (b49000_4 : List Msg) (b49000_5 : List Msg) (Kb3 : Kont U El) (Kb4 : Kont U El) : exec X (cdp [1, 1, 1, 1, 1, 1, 0, 1, 0, 0] bd) (.seq none .d (.seq none .d (.seq (some nm5) (.block (.seq none .d (.seq none .d (.seq none .d (.seq (some nm6) .d (.seq none .d (.cond (.seq none .d (.seq (some nm7) (.seq none .d (.block (.loop nm8 (.seq none .d (.seq none .d (.seq none (.block (.seq none .d (.seq none (.region [(3, 49000), (3, 504900003), (3, 504900004), (3, 504900005)]) .d))) .d)))))) .d)) .d))))))) .d))) (fr4 take2 put9 out10 x58 x59 x60 b49000_0 b49000_1 b49000_2 b49000_3 b49000_4 b49000_5) (cutK nm4 Kb4) (Eblk 0 (cutK nm3 Kb3) (fun _ _ => none)) RR = sh4 take2 put9 out10 x58 x59 x60 b49000_0 b49000_1 b49000_2 b49000_3 b49000_4 b49000_5 (fun y0 y1 y2 y3 y4 y5 y6 y7 => Kb3 (fr3 y0 y1 y2 y3 y4 y5 y6 y7)) (fun y0 y1 y2 y3 y4 y5 y6 y7 y8 y9 y10 y11 y12 => (hid (ct6 Kb3 (hid (ct5 Kb3 Kb4)))) (fr6 y0 y1 y2 y3 y4 y5 y6 y7 y8 y9 y10 y11 y12)) := by kernel_rfl
theorem P5 (take2 : List Bool) (put9 : List Msg) (out10 : List Msg) (x58 : List Msg) (x59 : Int) (x60 : Int) (b49000_0 : Int) (b49000_1 : Int) (b49000_2 : Int) (b49000_3 : List (Key × Bool)) (b49000_4 : List Msg) (b49000_5 : List Msg) (Kb3 : Kont U El) (Kb4 : Kont U El) : exec X (cdp [1, 1, 1, 1, 1, 1, 0, 1, 0, 0, 1, 1, 1] bd) .d (fr5 take2 put9 out10 x58 x59 x60 b49000_0 b49000_1 b49000_2 b49000_3 b49000_4 b49000_5) (cutK nm4 Kb4) (Eblk 0 (cutK nm3 Kb3) (fun _ _ => none)) RR = sh5 take2 put9 out10 x58 x59 x60 b49000_0 b49000_1 b49000_2 b49000_3 b49000_4 b49000_5 (fun y0 y1 y2 y3 y4 y5 y6 y7 y8 y9 y10 y11 => Kb4 (fr4 y0 y1 y2 y3 y4 y5 y6 y7 y8 y9 y10 y11)) := by kernel_rfl
theorem P6 (take2 : List Bool) (put9 : List Msg) (out10 : List Msg) (i11 : Int) (x58 : List Msg) (x59 : Int) (x60 : Int) (b49000_0 : Int) (b49000_1 : Int) (b49000_2 : Int) (b49000_3 : List (Key × Bool)) (b49000_4 : List Msg) (b49000_5 : List Msg) (Kb3 : Kont U El) (Kb5 : Kont U El) : exec X (cdp [1, 1, 1, 1, 1, 1, 0, 1, 0, 0, 1, 1, 0, 0, 1, 1, 1, 1] bd) (.seq none .d (.cond (.seq none .d (.seq (some nm7) (.seq none .d (.block (.loop nm8 (.seq none .d (.seq none .d (.seq none (.block (.seq none .d (.seq none (.region [(3, 49000), (3, 504900003), (3, 504900004), (3, 504900005)]) .d))) .d)))))) .d)) .d)) (fr6 take2 put9 out10 i11 x58 x59 x60 b49000_0 b49000_1 b49000_2 b49000_3 b49000_4 b49000_5) (cutK nm5 Kb5) (Eblk 1 (cutK nm5 Kb5) (Eblk 0 (cutK nm3 Kb3) (fun _ _ => none))) RR = sh6 take2 put9 out10 i11 x58 x59 x60 b49000_0 b49000_1 b49000_2 b49000_3 b49000_4 b49000_5 (fun y0 y1 y2 y3 y4 y5 y6 y7 y8 y9 y10 y11 => Kb5 (fr5 y0 y1 y2 y3 y4 y5 y6 y7 y8 y9 y10 y11)) (fun y0 y1 y2 y3 y4 y5 y6 y7 y8 y9 y10 y11 y12 y13 y14 => (hid (it8 Kb3 Kb5 (hid (ct7 Kb3 Kb5)) 100000)) (fr8 y0 y1 y2 y3 y4 y5 y6 y7 y8 y9 y10 y11 y12 y13 y14)) := by kernel_rfl
theorem P7 (take2 : List Bool) (put9 : List Msg) (out10 : List Msg) (ready15 : List Msg) (x58 : List Msg) (x59 : Int) (x60 : Int) (b49000_0 : Int) (b49000_1 : Int) (b49000_2 : Int) (b49000_3 : List (Key × Bool)) (b49000_4 : List Msg) (b49000_5 : List Msg) (Kb3 : Kont U El) (Kb5 : Kont U El) : exec X (cdp [1, 1, 1, 1, 1, 1, 0, 1, 0, 0, 1, 1, 0, 0, 1, 1, 1, 1, 1, 0, 1, 1] bd) .d (fr7 take2 put9 out10 ready15 x58 x59 x60 b49000_0 b49000_1 b49000_2 b49000_3 b49000_4 b49000_5) (cutK nm5 Kb5) (Eblk 1 (cutK nm5 Kb5) (Eblk 0 (cutK nm3 Kb3) (fun _ _ => none))) RR = sh7 take2 put9 out10 ready15 x58 x59 x60 b49000_0 b49000_1 b49000_2 b49000_3 b49000_4 b49000_5 (fun y0 y1 y2 y3 y4 y5 y6 y7 y8 y9 y10 y11 => Kb5 (fr5 y0 y1 y2 y3 y4 y5 y6 y7 y8 y9 y10 y11)) := by kernel_rfl
theorem P8 (take2 : List Bool) (put9 : List Msg) (out10 : List Msg) (ready15 : List Msg) (x58 : List Msg) (x59 : Int) (x60 : Int) (x132 : Int) (x133 : Int) (b49000_0 : Int) (b49000_1 : Int) (b49000_2 : Int) (b49000_3 : List (Key × Bool)) (b49000_4 : List Msg) (b49000_5 : List Msg) (Kb3 : Kont U El) (Kb5 : Kont U El) (Kb7 : Kont U El) (Kb8 : Kont U El) : exec X (cdp [1, 1, 1, 1, 1, 1, 0, 1, 0, 0, 1, 1, 0, 0, 1, 1, 1, 1, 1, 0, 1, 0, 1, 0, 0] bd) (.seq none .d (.seq none .d (.seq none (.block (.seq none .d (.seq none (.region [(3, 49000), (3, 504900003), (3, 504900004), (3, 504900005)]) .d))) .d))) (fr8 take2 put9 out10 ready15 x58 x59 x60 x132 x133 b49000_0 b49000_1 b49000_2 b49000_3 b49000_4 b49000_5) (cutK nm8 Kb8) (Eblk 2 (cutK nm7 Kb7) (Eblk 1 (cutK nm5 Kb5) (Eblk 0 (cutK nm3 Kb3) (fun _ _ => none)))) RR = sh8 take2 put9 out10 ready15 x58 x59 x60 x132 x133 b49000_0 b49000_1 b49000_2 b49000_3 b49000_4 b49000_5 (fun y0 y1 y2 y3 y4 y5 y6 y7 y8 y9 y10 y11 y12 => Kb7 (fr7 y0 y1 y2 y3 y4 y5 y6 y7 y8 y9 y10 y11 y12)) (fun y0 y1 y2 y3 y4 y5 y6 y7 y8 y9 y10 y11 y12 y13 y14 => Kb8 (fr8 y0 y1 y2 y3 y4 y5 y6 y7 y8 y9 y10 y11 y12 y13 y14)) := by kernel_rfl
theorem P9 (put9 : List Msg) (out10 : List Msg) (b49000_0 : Int) (b49000_1 : Int) (b49000_2 : Int) (b49000_3 : List (Key × Bool)) (b49000_4 : List Msg) (b49000_5 : List Msg) : exec X (cdp [1, 1, 1, 1, 1, 1, 1, 1, 1] bd) (.seq none .d (.seq none .d (.seq (some nm12) (.seq none .d (.block (.loop nm13 (.seq none .d (.seq none .d (.seq (some nm14) (.block (.seq none .d (.seq none .d (.seq (some nm15) (.seq none (.region [(15, 49000), (15, 504900003), (15, 504900004), (15, 504900005)]) .d) .d)))) .d)))))) .d))) (fr9 put9 out10 b49000_0 b49000_1 b49000_2 b49000_3 b49000_4 b49000_5) RR (fun _ _ => none) RR = sh9 put9 out10 b49000_0 b49000_1 b49000_2 b49000_3 b49000_4 b49000_5 (fun y0 y1 y2 y3 y4 y5 y6 y7 y8 y9 y10 y11 => (hid (it13 (hid ct12) 100000)) (fr13 y0 y1 y2 y3 y4 y5 y6 y7 y8 y9 y10 y11)) := by kernel_rfl
theorem P10 (put9 : List Msg) (out10 : List Msg) (x152 : Int) (x153 : Int) (b49000_0 : Int) (b49000_1 : Int) (b49000_2 : Int) (b49000_3 : List (Key × Bool)) (b49000_4 : List Msg) (b49000_5 : List Msg) (Kb9 : Kont U El) (Kb10 : Kont U El) : exec X (cdp [1, 1, 1, 1, 1, 1, 1, 1, 0, 1, 0, 0] bd) (.seq none .d (.seq none .d (.seq (some nm11) .d .d))) (fr10 put9 out10 x152 x153 b49000_0 b49000_1 b49000_2 b49000_3 b49000_4 b49000_5) (cutK nm10 Kb10) (Eblk 4 (cutK nm9 Kb9) (fun _ _ => none)) RR = sh10 put9 out10 x152 x153 b49000_0 b49000_1 b49000_2 b49000_3 b49000_4 b49000_5 (fun y0 y1 y2 y3 y4 y5 y6 y7 => Kb9 (fr9 y0 y1 y2 y3 y4 y5 y6 y7)) (fun y0 y1 y2 y3 y4 y5 y6 y7 y8 y9 => (hid (ct11 Kb9 Kb10)) (fr11 y0 y1 y2 y3 y4 y5 y6 y7 y8 y9)) := by kernel_rfl
theorem P11 (put9 : List Msg) (out10 : List Msg) (x152 : Int) (x153 : Int) (b49000_0 : Int) (b49000_1 : Int) (b49000_2 : Int) (b49000_3 : List (Key × Bool)) (b49000_4 : List Msg) (b49000_5 : List Msg) (Kb9 : Kont U El) (Kb10 : Kont U El) : exec X (cdp [1, 1, 1, 1, 1, 1, 1, 1, 0, 1, 0, 0, 1, 1, 1] bd) .d (fr11 put9 out10 x152 x153 b49000_0 b49000_1 b49000_2 b49000_3 b49000_4 b49000_5) (cutK nm10 Kb10) (Eblk 4 (cutK nm9 Kb9) (fun _ _ => none)) RR = sh11 put9 out10 x152 x153 b49000_0 b49000_1 b49000_2 b49000_3 b49000_4 b49000_5 (fun y0 y1 y2 y3 y4 y5 y6 y7 y8 y9 => Kb10 (fr10 y0 y1 y2 y3 y4 y5 y6 y7 y8 y9)) := by kernel_rfl
theorem P12 (put9 : List Msg) (out10 : List Msg) (late19 : List Msg) (rest20 : Int) : exec X (cdp [1, 1, 1, 1, 1, 1, 1, 1, 1, 1, 1, 1] bd) .d (fr12 put9 out10 late19 rest20) RR (fun _ _ => none) RR = sh12 put9 out10 late19 rest20 := by kernel_rfl
theorem P13 (put9 : List Msg) (out10 : List Msg) (late19 : List Msg) (rest20 : Int) (x175 : Int) (x176 : Int) (b49000_0 : Int) (b49000_1 : Int) (b49000_2 : Int) (b49000_3 : List (Key × Bool)) (b49000_4 : List Msg) (b49000_5 : List Msg) (Kb12 : Kont U El) (Kb13 : Kont U El) : exec X (cdp [1, 1, 1, 1, 1, 1, 1, 1, 1, 1, 1, 0, 1, 0, 0] bd) (.seq none .d (.seq none .d (.seq (some nm14) (.block (.seq none .d (.seq none .d (.seq (some nm15) (.seq none (.region [(15, 49000), (15, 504900003), (15, 504900004), (15, 504900005)]) .d) .d)))) .d))) (fr13 put9 out10 late19 rest20 x175 x176 b49000_0 b49000_1 b49000_2 b49000_3 b49000_4 b49000_5) (cutK nm13 Kb13) (Eblk 6 (cutK nm12 Kb12) (fun _ _ => none)) RR = sh13 put9 out10 late19 rest20 x175 x176 b49000_0 b49000_1 b49000_2 b49000_3 b49000_4 b49000_5 (fun y0 y1 y2 y3 => Kb12 (fr12 y0 y1 y2 y3)) (fun y0 y1 y2 y3 y4 y5 y6 y7 y8 y9 y10 y11 y12 y13 => (hid (ct15 Kb12 (hid (ct14 Kb12 Kb13)))) (fr15 y0 y1 y2 y3 y4 y5 y6 y7 y8 y9 y10 y11 y12 y13)) := by kernel_rfl
theorem P14 (put9 : List Msg) (out10 : List Msg) (late19 : List Msg) (rest20 : Int) (x175 : Int) (x176 : Int) (b49000_0 : Int) (b49000_1 : Int) (b49000_2 : Int) (b49000_3 : List (Key × Bool)) (b49000_4 : List Msg) (b49000_5 : List Msg) (Kb12 : Kont U El) (Kb13 : Kont U El) : exec X (cdp [1, 1, 1, 1, 1, 1, 1, 1, 1, 1, 1, 0, 1, 0, 0, 1, 1, 1] bd) .d (fr14 put9 out10 late19 rest20 x175 x176 b49000_0 b49000_1 b49000_2 b49000_3 b49000_4 b49000_5) (cutK nm13 Kb13) (Eblk 6 (cutK nm12 Kb12) (fun _ _ => none)) RR = sh14 put9 out10 late19 rest20 x175 x176 b49000_0 b49000_1 b49000_2 b49000_3 b49000_4 b49000_5 (fun y0 y1 y2 y3 y4 y5 y6 y7 y8 y9 y10 y11 => Kb13 (fr13 y0 y1 y2 y3 y4 y5 y6 y7 y8 y9 y10 y11)) := by kernel_rfl
theorem P15 (put9 : List Msg) (out10 : List Msg) (late19 : List Msg) (rest20 : Int) (a23 : Bool) (b24 : Bool) (x175 : Int) (x176 : Int) (b49000_0 : Int) (b49000_1 : Int) (b49000_2 : Int) (b49000_3 : List (Key × Bool)) (b49000_4 : List Msg) (b49000_5 : List Msg) (Kb12 : Kont U El) (Kb14 : Kont U El) : exec X (cdp [1, 1, 1, 1, 1, 1, 1, 1, 1, 1, 1, 0, 1, 0, 0, 1, 1, 0, 0, 1, 1, 1] bd) .d (fr15 put9 out10 late19 rest20 a23 b24 x175 x176 b49000_0 b49000_1 b49000_2 b49000_3 b49000_4 b49000_5) (cutK nm14 Kb14) (Eblk 7 (cutK nm14 Kb14) (Eblk 6 (cutK nm12 Kb12) (fun _ _ => none))) RR = sh15 put9 out10 late19 rest20 a23 b24 x175 x176 b49000_0 b49000_1 b49000_2 b49000_3 b49000_4 b49000_5 (fun y0 y1 y2 y3 y4 y5 y6 y7 y8 y9 y10 y11 => Kb14 (fr14 y0 y1 y2 y3 y4 y5 y6 y7 y8 y9 y10 y11)) := by kernel_rfl
noncomputable def f12 (put9 : List Msg) (out10 : List Msg) (late19 : List Msg) (rest20 : Int) : R := sh12 put9 out10 late19 rest20
noncomputable def f14 (k13 : (List Msg) → (List Msg) → (List Msg) → Int → Int → Int → Int → Int → Int → (List (Key × Bool)) → (List Msg) → (List Msg) → R) (put9 : List Msg) (out10 : List Msg) (late19 : List Msg) (rest20 : Int) (x175 : Int) (x176 : Int) (b49000_0 : Int) (b49000_1 : Int) (b49000_2 : Int) (b49000_3 : List (Key × Bool)) (b49000_4 : List Msg) (b49000_5 : List Msg) : R := sh14 put9 out10 late19 rest20 x175 x176 b49000_0 b49000_1 b49000_2 b49000_3 b49000_4 b49000_5 k13
noncomputable def f15 (k13 : (List Msg) → (List Msg) → (List Msg) → Int → Int → Int → Int → Int → Int → (List (Key × Bool)) → (List Msg) → (List Msg) → R) (put9 : List Msg) (out10 : List Msg) (late19 : List Msg) (rest20 : Int) (a23 : Bool) (b24 : Bool) (x175 : Int) (x176 : Int) (b49000_0 : Int) (b49000_1 : Int) (b49000_2 : Int) (b49000_3 : List (Key × Bool)) (b49000_4 : List Msg) (b49000_5 : List Msg) : R := sh15 put9 out10 late19 rest20 a23 b24 x175 x176 b49000_0 b49000_1 b49000_2 b49000_3 b49000_4 b49000_5 (f14 k13)
noncomputable def f13 : Nat → (List Msg) → (List Msg) → (List Msg) → Int → Int → Int → Int → Int → Int → (List (Key × Bool)) → (List Msg) → (List Msg) → R
  | 0 => fun _ _ _ _ _ _ _ _ _ _ _ _ => none
  | n + 1 => fun put9 out10 late19 rest20 x175 x176 b49000_0 b49000_1 b49000_2 b49000_3 b49000_4 b49000_5 => sh13 put9 out10 late19 rest20 x175 x176 b49000_0 b49000_1 b49000_2 b49000_3 b49000_4 b49000_5 f12 (f15 (f13 n))
noncomputable def f9 (put9 : List Msg) (out10 : List Msg) (b49000_0 : Int) (b49000_1 : Int) (b49000_2 : Int) (b49000_3 : List (Key × Bool)) (b49000_4 : List Msg) (b49000_5 : List Msg) : R := sh9 put9 out10 b49000_0 b49000_1 b49000_2 b49000_3 b49000_4 b49000_5 (f13 100000)
noncomputable def f11 (k10 : (List Msg) → (List Msg) → Int → Int → Int → Int → Int → (List (Key × Bool)) → (List Msg) → (List Msg) → R) (put9 : List Msg) (out10 : List Msg) (x152 : Int) (x153 : Int) (b49000_0 : Int) (b49000_1 : Int) (b49000_2 : Int) (b49000_3 : List (Key × Bool)) (b49000_4 : List Msg) (b49000_5 : List Msg) : R := sh11 put9 out10 x152 x153 b49000_0 b49000_1 b49000_2 b49000_3 b49000_4 b49000_5 k10
noncomputable def f10 : Nat → (List Msg) → (List Msg) → Int → Int → Int → Int → Int → (List (Key × Bool)) → (List Msg) → (List Msg) → R
  | 0 => fun _ _ _ _ _ _ _ _ _ _ => none
  | n + 1 => fun put9 out10 x152 x153 b49000_0 b49000_1 b49000_2 b49000_3 b49000_4 b49000_5 => sh10 put9 out10 x152 x153 b49000_0 b49000_1 b49000_2 b49000_3 b49000_4 b49000_5 f9 (f11 (f10 n))
noncomputable def f3 (put9 : List Msg) (out10 : List Msg) (b49000_0 : Int) (b49000_1 : Int) (b49000_2 : Int) (b49000_3 : List (Key × Bool)) (b49000_4 : List Msg) (b49000_5 : List Msg) : R := sh3 put9 out10 b49000_0 b49000_1 b49000_2 b49000_3 b49000_4 b49000_5 (f10 100000)
noncomputable def f5 (k4 : (List Bool) → (List Msg) → (List Msg) → (List Msg) → Int → Int → Int → Int → Int → (List (Key × Bool)) → (List Msg) → (List Msg) → R) (take2 : List Bool) (put9 : List Msg) (out10 : List Msg) (x58 : List Msg) (x59 : Int) (x60 : Int) (b49000_0 : Int) (b49000_1 : Int) (b49000_2 : Int) (b49000_3 : List (Key × Bool)) (b49000_4 : List Msg) (b49000_5 : List Msg) : R := sh5 take2 put9 out10 x58 x59 x60 b49000_0 b49000_1 b49000_2 b49000_3 b49000_4 b49000_5 k4
noncomputable def f7 (k4 : (List Bool) → (List Msg) → (List Msg) → (List Msg) → Int → Int → Int → Int → Int → (List (Key × Bool)) → (List Msg) → (List Msg) → R) (take2 : List Bool) (put9 : List Msg) (out10 : List Msg) (ready15 : List Msg) (x58 : List Msg) (x59 : Int) (x60 : Int) (b49000_0 : Int) (b49000_1 : Int) (b49000_2 : Int) (b49000_3 : List (Key × Bool)) (b49000_4 : List Msg) (b49000_5 : List Msg) : R := sh7 take2 put9 out10 ready15 x58 x59 x60 b49000_0 b49000_1 b49000_2 b49000_3 b49000_4 b49000_5 (f5 k4)
noncomputable def f8 (k4 : (List Bool) → (List Msg) → (List Msg) → (List Msg) → Int → Int → Int → Int → Int → (List (Key × Bool)) → (List Msg) → (List Msg) → R) : Nat → (List Bool) → (List Msg) → (List Msg) → (List Msg) → (List Msg) → Int → Int → Int → Int → Int → Int → Int → (List (Key × Bool)) → (List Msg) → (List Msg) → R
  | 0 => fun _ _ _ _ _ _ _ _ _ _ _ _ _ _ _ => none
  | n + 1 => fun take2 put9 out10 ready15 x58 x59 x60 x132 x133 b49000_0 b49000_1 b49000_2 b49000_3 b49000_4 b49000_5 => sh8 take2 put9 out10 ready15 x58 x59 x60 x132 x133 b49000_0 b49000_1 b49000_2 b49000_3 b49000_4 b49000_5 (f7 k4) (f8 k4 n)
noncomputable def f6 (k4 : (List Bool) → (List Msg) → (List Msg) → (List Msg) → Int → Int → Int → Int → Int → (List (Key × Bool)) → (List Msg) → (List Msg) → R) (take2 : List Bool) (put9 : List Msg) (out10 : List Msg) (i11 : Int) (x58 : List Msg) (x59 : Int) (x60 : Int) (b49000_0 : Int) (b49000_1 : Int) (b49000_2 : Int) (b49000_3 : List (Key × Bool)) (b49000_4 : List Msg) (b49000_5 : List Msg) : R := sh6 take2 put9 out10 i11 x58 x59 x60 b49000_0 b49000_1 b49000_2 b49000_3 b49000_4 b49000_5 (f5 k4) (f8 k4 100000)
noncomputable def f4 : Nat → (List Bool) → (List Msg) → (List Msg) → (List Msg) → Int → Int → Int → Int → Int → (List (Key × Bool)) → (List Msg) → (List Msg) → R
  | 0 => fun _ _ _ _ _ _ _ _ _ _ _ _ => none
  | n + 1 => fun take2 put9 out10 x58 x59 x60 b49000_0 b49000_1 b49000_2 b49000_3 b49000_4 b49000_5 => sh4 take2 put9 out10 x58 x59 x60 b49000_0 b49000_1 b49000_2 b49000_3 b49000_4 b49000_5 f3 (f6 (f4 n))
noncomputable def f2 (l1 : List Msg) (take2 : List Bool) (b49000_0 : Int) (b49000_1 : Int) (b49000_2 : Int) (b49000_3 : List (Key × Bool)) (b49000_4 : List Msg) (b49000_5 : List Msg) : R := sh2 l1 take2 b49000_0 b49000_1 b49000_2 b49000_3 b49000_4 b49000_5 (f4 100000)
noncomputable def f1 (delay0 : Int) (l1 : List Msg) (take2 : List Bool) : R := sh1 delay0 l1 take2 f2
noncomputable def f0 (d : Int) (l : List Msg) (tk : List Bool) : R := sh0 d l tk f1
theorem T12 (put9 : List Msg) (out10 : List Msg) (late19 : List Msg) (rest20 : Int) : (hid ct12) (fr12 put9 out10 late19 rest20) = f12 put9 out10 late19 rest20 := by
  refine (congrFun (hid_eq _) _).trans <| (P12 put9 out10 late19 rest20).trans ?_
  show _ = sh12 put9 out10 late19 rest20
  rfl
theorem T14 (KL13 : Kont U El) (k13 : (List Msg) → (List Msg) → (List Msg) → Int → Int → Int → Int → Int → Int → (List (Key × Bool)) → (List Msg) → (List Msg) → R) (h13 : ∀ put9 out10 late19 rest20 x175 x176 b49000_0 b49000_1 b49000_2 b49000_3 b49000_4 b49000_5, KL13 (fr13 put9 out10 late19 rest20 x175 x176 b49000_0 b49000_1 b49000_2 b49000_3 b49000_4 b49000_5) = k13 put9 out10 late19 rest20 x175 x176 b49000_0 b49000_1 b49000_2 b49000_3 b49000_4 b49000_5) (put9 : List Msg) (out10 : List Msg) (late19 : List Msg) (rest20 : Int) (x175 : Int) (x176 : Int) (b49000_0 : Int) (b49000_1 : Int) (b49000_2 : Int) (b49000_3 : List (Key × Bool)) (b49000_4 : List Msg) (b49000_5 : List Msg) : (hid (ct14 (hid ct12) KL13)) (fr14 put9 out10 late19 rest20 x175 x176 b49000_0 b49000_1 b49000_2 b49000_3 b49000_4 b49000_5) = f14 k13 put9 out10 late19 rest20 x175 x176 b49000_0 b49000_1 b49000_2 b49000_3 b49000_4 b49000_5 := by
  refine (congrFun (hid_eq _) _).trans <| (P14 put9 out10 late19 rest20 x175 x176 b49000_0 b49000_1 b49000_2 b49000_3 b49000_4 b49000_5 (hid ct12) KL13).trans ?_
  show _ = sh14 put9 out10 late19 rest20 x175 x176 b49000_0 b49000_1 b49000_2 b49000_3 b49000_4 b49000_5 k13
  simp only [h13]
theorem T15 (KL13 : Kont U El) (k13 : (List Msg) → (List Msg) → (List Msg) → Int → Int → Int → Int → Int → Int → (List (Key × Bool)) → (List Msg) → (List Msg) → R) (h13 : ∀ put9 out10 late19 rest20 x175 x176 b49000_0 b49000_1 b49000_2 b49000_3 b49000_4 b49000_5, KL13 (fr13 put9 out10 late19 rest20 x175 x176 b49000_0 b49000_1 b49000_2 b49000_3 b49000_4 b49000_5) = k13 put9 out10 late19 rest20 x175 x176 b49000_0 b49000_1 b49000_2 b49000_3 b49000_4 b49000_5) (put9 : List Msg) (out10 : List Msg) (late19 : List Msg) (rest20 : Int) (a23 : Bool) (b24 : Bool) (x175 : Int) (x176 : Int) (b49000_0 : Int) (b49000_1 : Int) (b49000_2 : Int) (b49000_3 : List (Key × Bool)) (b49000_4 : List Msg) (b49000_5 : List Msg) : (hid (ct15 (hid ct12) (hid (ct14 (hid ct12) KL13)))) (fr15 put9 out10 late19 rest20 a23 b24 x175 x176 b49000_0 b49000_1 b49000_2 b49000_3 b49000_4 b49000_5) = f15 k13 put9 out10 late19 rest20 a23 b24 x175 x176 b49000_0 b49000_1 b49000_2 b49000_3 b49000_4 b49000_5 := by
  refine (congrFun (hid_eq _) _).trans <| (P15 put9 out10 late19 rest20 a23 b24 x175 x176 b49000_0 b49000_1 b49000_2 b49000_3 b49000_4 b49000_5 (hid ct12) (hid (ct14 (hid ct12) KL13))).trans ?_
  show _ = sh15 put9 out10 late19 rest20 a23 b24 x175 x176 b49000_0 b49000_1 b49000_2 b49000_3 b49000_4 b49000_5 (f14 k13)
  simp only [T14 KL13 k13 h13]
theorem T13 : ∀ (n : Nat), ∀ put9 out10 late19 rest20 x175 x176 b49000_0 b49000_1 b49000_2 b49000_3 b49000_4 b49000_5, it13 (hid ct12) n (fr13 put9 out10 late19 rest20 x175 x176 b49000_0 b49000_1 b49000_2 b49000_3 b49000_4 b49000_5) = f13 n put9 out10 late19 rest20 x175 x176 b49000_0 b49000_1 b49000_2 b49000_3 b49000_4 b49000_5 := by
  intro n
  induction n with
  | zero => intros; rfl
  | succ n ih =>
    intro put9 out10 late19 rest20 x175 x176 b49000_0 b49000_1 b49000_2 b49000_3 b49000_4 b49000_5
    refine (P13 put9 out10 late19 rest20 x175 x176 b49000_0 b49000_1 b49000_2 b49000_3 b49000_4 b49000_5 (hid ct12) (it13 (hid ct12) n)).trans ?_
    show _ = sh13 put9 out10 late19 rest20 x175 x176 b49000_0 b49000_1 b49000_2 b49000_3 b49000_4 b49000_5 f12 (f15 (f13 n))
    simp only [T12, T15 (it13 (hid ct12) n) (f13 n) ih]
theorem H13 (put9 : List Msg) (out10 : List Msg) (late19 : List Msg) (rest20 : Int) (x175 : Int) (x176 : Int) (b49000_0 : Int) (b49000_1 : Int) (b49000_2 : Int) (b49000_3 : List (Key × Bool)) (b49000_4 : List Msg) (b49000_5 : List Msg) : hid (it13 (hid ct12) 100000) (fr13 put9 out10 late19 rest20 x175 x176 b49000_0 b49000_1 b49000_2 b49000_3 b49000_4 b49000_5) = f13 100000 put9 out10 late19 rest20 x175 x176 b49000_0 b49000_1 b49000_2 b49000_3 b49000_4 b49000_5 := (congrFun (hid_eq _) _).trans (T13 100000 put9 out10 late19 rest20 x175 x176 b49000_0 b49000_1 b49000_2 b49000_3 b49000_4 b49000_5)
theorem T9 (put9 : List Msg) (out10 : List Msg) (b49000_0 : Int) (b49000_1 : Int) (b49000_2 : Int) (b49000_3 : List (Key × Bool)) (b49000_4 : List Msg) (b49000_5 : List Msg) : (hid ct9) (fr9 put9 out10 b49000_0 b49000_1 b49000_2 b49000_3 b49000_4 b49000_5) = f9 put9 out10 b49000_0 b49000_1 b49000_2 b49000_3 b49000_4 b49000_5 := by
  refine (congrFun (hid_eq _) _).trans <| (P9 put9 out10 b49000_0 b49000_1 b49000_2 b49000_3 b49000_4 b49000_5).trans ?_
  show _ = sh9 put9 out10 b49000_0 b49000_1 b49000_2 b49000_3 b49000_4 b49000_5 (f13 100000)
  simp only [H13]
theorem T11 (KL10 : Kont U El) (k10 : (List Msg) → (List Msg) → Int → Int → Int → Int → Int → (List (Key × Bool)) → (List Msg) → (List Msg) → R) (h10 : ∀ put9 out10 x152 x153 b49000_0 b49000_1 b49000_2 b49000_3 b49000_4 b49000_5, KL10 (fr10 put9 out10 x152 x153 b49000_0 b49000_1 b49000_2 b49000_3 b49000_4 b49000_5) = k10 put9 out10 x152 x153 b49000_0 b49000_1 b49000_2 b49000_3 b49000_4 b49000_5) (put9 : List Msg) (out10 : List Msg) (x152 : Int) (x153 : Int) (b49000_0 : Int) (b49000_1 : Int) (b49000_2 : Int) (b49000_3 : List (Key × Bool)) (b49000_4 : List Msg) (b49000_5 : List Msg) : (hid (ct11 (hid ct9) KL10)) (fr11 put9 out10 x152 x153 b49000_0 b49000_1 b49000_2 b49000_3 b49000_4 b49000_5) = f11 k10 put9 out10 x152 x153 b49000_0 b49000_1 b49000_2 b49000_3 b49000_4 b49000_5 := by
  refine (congrFun (hid_eq _) _).trans <| (P11 put9 out10 x152 x153 b49000_0 b49000_1 b49000_2 b49000_3 b49000_4 b49000_5 (hid ct9) KL10).trans ?_
  show _ = sh11 put9 out10 x152 x153 b49000_0 b49000_1 b49000_2 b49000_3 b49000_4 b49000_5 k10
  simp only [h10]
theorem T10 : ∀ (n : Nat), ∀ put9 out10 x152 x153 b49000_0 b49000_1 b49000_2 b49000_3 b49000_4 b49000_5, it10 (hid ct9) n (fr10 put9 out10 x152 x153 b49000_0 b49000_1 b49000_2 b49000_3 b49000_4 b49000_5) = f10 n put9 out10 x152 x153 b49000_0 b49000_1 b49000_2 b49000_3 b49000_4 b49000_5 := by
  intro n
  induction n with
  | zero => intros; rfl
  | succ n ih =>
    intro put9 out10 x152 x153 b49000_0 b49000_1 b49000_2 b49000_3 b49000_4 b49000_5
    refine (P10 put9 out10 x152 x153 b49000_0 b49000_1 b49000_2 b49000_3 b49000_4 b49000_5 (hid ct9) (it10 (hid ct9) n)).trans ?_
    show _ = sh10 put9 out10 x152 x153 b49000_0 b49000_1 b49000_2 b49000_3 b49000_4 b49000_5 f9 (f11 (f10 n))
    simp only [T9, T11 (it10 (hid ct9) n) (f10 n) ih]
theorem H10 (put9 : List Msg) (out10 : List Msg) (x152 : Int) (x153 : Int) (b49000_0 : Int) (b49000_1 : Int) (b49000_2 : Int) (b49000_3 : List (Key × Bool)) (b49000_4 : List Msg) (b49000_5 : List Msg) : hid (it10 (hid ct9) 100000) (fr10 put9 out10 x152 x153 b49000_0 b49000_1 b49000_2 b49000_3 b49000_4 b49000_5) = f10 100000 put9 out10 x152 x153 b49000_0 b49000_1 b49000_2 b49000_3 b49000_4 b49000_5 := (congrFun (hid_eq _) _).trans (T10 100000 put9 out10 x152 x153 b49000_0 b49000_1 b49000_2 b49000_3 b49000_4 b49000_5)
theorem T3 (put9 : List Msg) (out10 : List Msg) (b49000_0 : Int) (b49000_1 : Int) (b49000_2 : Int) (b49000_3 : List (Key × Bool)) (b49000_4 : List Msg) (b49000_5 : List Msg) : (hid ct3) (fr3 put9 out10 b49000_0 b49000_1 b49000_2 b49000_3 b49000_4 b49000_5) = f3 put9 out10 b49000_0 b49000_1 b49000_2 b49000_3 b49000_4 b49000_5 := by
  refine (congrFun (hid_eq _) _).trans <| (P3 put9 out10 b49000_0 b49000_1 b49000_2 b49000_3 b49000_4 b49000_5).trans ?_
  show _ = sh3 put9 out10 b49000_0 b49000_1 b49000_2 b49000_3 b49000_4 b49000_5 (f10 100000)
  simp only [H10]
theorem T5 (KL4 : Kont U El) (k4 : (List Bool) → (List Msg) → (List Msg) → (List Msg) → Int → Int → Int → Int → Int → (List (Key × Bool)) → (List Msg) → (List Msg) → R) (h4 : ∀ take2 put9 out10 x58 x59 x60 b49000_0 b49000_1 b49000_2 b49000_3 b49000_4 b49000_5, KL4 (fr4 take2 put9 out10 x58 x59 x60 b49000_0 b49000_1 b49000_2 b49000_3 b49000_4 b49000_5) = k4 take2 put9 out10 x58 x59 x60 b49000_0 b49000_1 b49000_2 b49000_3 b49000_4 b49000_5) (take2 : List Bool) (put9 : List Msg) (out10 : List Msg) (x58 : List Msg) (x59 : Int) (x60 : Int) (b49000_0 : Int) (b49000_1 : Int) (b49000_2 : Int) (b49000_3 : List (Key × Bool)) (b49000_4 : List Msg) (b49000_5 : List Msg) : (hid (ct5 (hid ct3) KL4)) (fr5 take2 put9 out10 x58 x59 x60 b49000_0 b49000_1 b49000_2 b49000_3 b49000_4 b49000_5) = f5 k4 take2 put9 out10 x58 x59 x60 b49000_0 b49000_1 b49000_2 b49000_3 b49000_4 b49000_5 := by
  refine (congrFun (hid_eq _) _).trans <| (P5 take2 put9 out10 x58 x59 x60 b49000_0 b49000_1 b49000_2 b49000_3 b49000_4 b49000_5 (hid ct3) KL4).trans ?_
  show _ = sh5 take2 put9 out10 x58 x59 x60 b49000_0 b49000_1 b49000_2 b49000_3 b49000_4 b49000_5 k4
  simp only [h4]
theorem T7 (KL4 : Kont U El) (k4 : (List Bool) → (List Msg) → (List Msg) → (List Msg) → Int → Int → Int → Int → Int → (List (Key × Bool)) → (List Msg) → (List Msg) → R) (h4 : ∀ take2 put9 out10 x58 x59 x60 b49000_0 b49000_1 b49000_2 b49000_3 b49000_4 b49000_5, KL4 (fr4 take2 put9 out10 x58 x59 x60 b49000_0 b49000_1 b49000_2 b49000_3 b49000_4 b49000_5) = k4 take2 put9 out10 x58 x59 x60 b49000_0 b49000_1 b49000_2 b49000_3 b49000_4 b49000_5) (take2 : List Bool) (put9 : List Msg) (out10 : List Msg) (ready15 : List Msg) (x58 : List Msg) (x59 : Int) (x60 : Int) (b49000_0 : Int) (b49000_1 : Int) (b49000_2 : Int) (b49000_3 : List (Key × Bool)) (b49000_4 : List Msg) (b49000_5 : List Msg) : (hid (ct7 (hid ct3) (hid (ct5 (hid ct3) KL4)))) (fr7 take2 put9 out10 ready15 x58 x59 x60 b49000_0 b49000_1 b49000_2 b49000_3 b49000_4 b49000_5) = f7 k4 take2 put9 out10 ready15 x58 x59 x60 b49000_0 b49000_1 b49000_2 b49000_3 b49000_4 b49000_5 := by
  refine (congrFun (hid_eq _) _).trans <| (P7 take2 put9 out10 ready15 x58 x59 x60 b49000_0 b49000_1 b49000_2 b49000_3 b49000_4 b49000_5 (hid ct3) (hid (ct5 (hid ct3) KL4))).trans ?_
  show _ = sh7 take2 put9 out10 ready15 x58 x59 x60 b49000_0 b49000_1 b49000_2 b49000_3 b49000_4 b49000_5 (f5 k4)
  simp only [T5 KL4 k4 h4]
theorem T8 (KL4 : Kont U El) (k4 : (List Bool) → (List Msg) → (List Msg) → (List Msg) → Int → Int → Int → Int → Int → (List (Key × Bool)) → (List Msg) → (List Msg) → R) (h4 : ∀ take2 put9 out10 x58 x59 x60 b49000_0 b49000_1 b49000_2 b49000_3 b49000_4 b49000_5, KL4 (fr4 take2 put9 out10 x58 x59 x60 b49000_0 b49000_1 b49000_2 b49000_3 b49000_4 b49000_5) = k4 take2 put9 out10 x58 x59 x60 b49000_0 b49000_1 b49000_2 b49000_3 b49000_4 b49000_5) : ∀ (n : Nat), ∀ take2 put9 out10 ready15 x58 x59 x60 x132 x133 b49000_0 b49000_1 b49000_2 b49000_3 b49000_4 b49000_5, it8 (hid ct3) (hid (ct5 (hid ct3) KL4)) (hid (ct7 (hid ct3) (hid (ct5 (hid ct3) KL4)))) n (fr8 take2 put9 out10 ready15 x58 x59 x60 x132 x133 b49000_0 b49000_1 b49000_2 b49000_3 b49000_4 b49000_5) = f8 k4 n take2 put9 out10 ready15 x58 x59 x60 x132 x133 b49000_0 b49000_1 b49000_2 b49000_3 b49000_4 b49000_5 := by
  intro n
  induction n with
  | zero => intros; rfl
  | succ n ih =>
    intro take2 put9 out10 ready15 x58 x59 x60 x132 x133 b49000_0 b49000_1 b49000_2 b49000_3 b49000_4 b49000_5
    refine (P8 take2 put9 out10 ready15 x58 x59 x60 x132 x133 b49000_0 b49000_1 b49000_2 b49000_3 b49000_4 b49000_5 (hid ct3) (hid (ct5 (hid ct3) KL4)) (hid (ct7 (hid ct3) (hid (ct5 (hid ct3) KL4)))) (it8 (hid ct3) (hid (ct5 (hid ct3) KL4)) (hid (ct7 (hid ct3) (hid (ct5 (hid ct3) KL4)))) n)).trans ?_
    show _ = sh8 take2 put9 out10 ready15 x58 x59 x60 x132 x133 b49000_0 b49000_1 b49000_2 b49000_3 b49000_4 b49000_5 (f7 k4) (f8 k4 n)
    simp only [T7 KL4 k4 h4, ih]
theorem H8 (KL4 : Kont U El) (k4 : (List Bool) → (List Msg) → (List Msg) → (List Msg) → Int → Int → Int → Int → Int → (List (Key × Bool)) → (List Msg) → (List Msg) → R) (h4 : ∀ take2 put9 out10 x58 x59 x60 b49000_0 b49000_1 b49000_2 b49000_3 b49000_4 b49000_5, KL4 (fr4 take2 put9 out10 x58 x59 x60 b49000_0 b49000_1 b49000_2 b49000_3 b49000_4 b49000_5) = k4 take2 put9 out10 x58 x59 x60 b49000_0 b49000_1 b49000_2 b49000_3 b49000_4 b49000_5) (take2 : List Bool) (put9 : List Msg) (out10 : List Msg) (ready15 : List Msg) (x58 : List Msg) (x59 : Int) (x60 : Int) (x132 : Int) (x133 : Int) (b49000_0 : Int) (b49000_1 : Int) (b49000_2 : Int) (b49000_3 : List (Key × Bool)) (b49000_4 : List Msg) (b49000_5 : List Msg) : hid (it8 (hid ct3) (hid (ct5 (hid ct3) KL4)) (hid (ct7 (hid ct3) (hid (ct5 (hid ct3) KL4)))) 100000) (fr8 take2 put9 out10 ready15 x58 x59 x60 x132 x133 b49000_0 b49000_1 b49000_2 b49000_3 b49000_4 b49000_5) = f8 k4 100000 take2 put9 out10 ready15 x58 x59 x60 x132 x133 b49000_0 b49000_1 b49000_2 b49000_3 b49000_4 b49000_5 := (congrFun (hid_eq _) _).trans (T8 KL4 k4 h4 100000 take2 put9 out10 ready15 x58 x59 x60 x132 x133 b49000_0 b49000_1 b49000_2 b49000_3 b49000_4 b49000_5)
theorem T6 (KL4 : Kont U El) (k4 : (List Bool) → (List Msg) → (List Msg) → (List Msg) → Int → Int → Int → Int → Int → (List (Key × Bool)) → (List Msg) → (List Msg) → R) (h4 : ∀ take2 put9 out10 x58 x59 x60 b49000_0 b49000_1 b49000_2 b49000_3 b49000_4 b49000_5, KL4 (fr4 take2 put9 out10 x58 x59 x60 b49000_0 b49000_1 b49000_2 b49000_3 b49000_4 b49000_5) = k4 take2 put9 out10 x58 x59 x60 b49000_0 b49000_1 b49000_2 b49000_3 b49000_4 b49000_5) (take2 : List Bool) (put9 : List Msg) (out10 : List Msg) (i11 : Int) (x58 : List Msg) (x59 : Int) (x60 : Int) (b49000_0 : Int) (b49000_1 : Int) (b49000_2 : Int) (b49000_3 : List (Key × Bool)) (b49000_4 : List Msg) (b49000_5 : List Msg) : (hid (ct6 (hid ct3) (hid (ct5 (hid ct3) KL4)))) (fr6 take2 put9 out10 i11 x58 x59 x60 b49000_0 b49000_1 b49000_2 b49000_3 b49000_4 b49000_5) = f6 k4 take2 put9 out10 i11 x58 x59 x60 b49000_0 b49000_1 b49000_2 b49000_3 b49000_4 b49000_5 := by
  refine (congrFun (hid_eq _) _).trans <| (P6 take2 put9 out10 i11 x58 x59 x60 b49000_0 b49000_1 b49000_2 b49000_3 b49000_4 b49000_5 (hid ct3) (hid (ct5 (hid ct3) KL4))).trans ?_
  show _ = sh6 take2 put9 out10 i11 x58 x59 x60 b49000_0 b49000_1 b49000_2 b49000_3 b49000_4 b49000_5 (f5 k4) (f8 k4 100000)
  simp only [T5 KL4 k4 h4, H8 KL4 k4 h4]
theorem T4 : ∀ (n : Nat), ∀ take2 put9 out10 x58 x59 x60 b49000_0 b49000_1 b49000_2 b49000_3 b49000_4 b49000_5, it4 (hid ct3) n (fr4 take2 put9 out10 x58 x59 x60 b49000_0 b49000_1 b49000_2 b49000_3 b49000_4 b49000_5) = f4 n take2 put9 out10 x58 x59 x60 b49000_0 b49000_1 b49000_2 b49000_3 b49000_4 b49000_5 := by
  intro n
  induction n with
  | zero => intros; rfl
  | succ n ih =>
    intro take2 put9 out10 x58 x59 x60 b49000_0 b49000_1 b49000_2 b49000_3 b49000_4 b49000_5
    refine (P4 take2 put9 out10 x58 x59 x60 b49000_0 b49000_1 b49000_2 b49000_3 b49000_4 b49000_5 (hid ct3) (it4 (hid ct3) n)).trans ?_
    show _ = sh4 take2 put9 out10 x58 x59 x60 b49000_0 b49000_1 b49000_2 b49000_3 b49000_4 b49000_5 f3 (f6 (f4 n))
    simp only [T3, T6 (it4 (hid ct3) n) (f4 n) ih]
theorem H4 (take2 : List Bool) (put9 : List Msg) (out10 : List Msg) (x58 : List Msg) (x59 : Int) (x60 : Int) (b49000_0 : Int) (b49000_1 : Int) (b49000_2 : Int) (b49000_3 : List (Key × Bool)) (b49000_4 : List Msg) (b49000_5 : List Msg) : hid (it4 (hid ct3) 100000) (fr4 take2 put9 out10 x58 x59 x60 b49000_0 b49000_1 b49000_2 b49000_3 b49000_4 b49000_5) = f4 100000 take2 put9 out10 x58 x59 x60 b49000_0 b49000_1 b49000_2 b49000_3 b49000_4 b49000_5 := (congrFun (hid_eq _) _).trans (T4 100000 take2 put9 out10 x58 x59 x60 b49000_0 b49000_1 b49000_2 b49000_3 b49000_4 b49000_5)
theorem T2 (l1 : List Msg) (take2 : List Bool) (b49000_0 : Int) (b49000_1 : Int) (b49000_2 : Int) (b49000_3 : List (Key × Bool)) (b49000_4 : List Msg) (b49000_5 : List Msg) : (hid ct2) (fr2 l1 take2 b49000_0 b49000_1 b49000_2 b49000_3 b49000_4 b49000_5) = f2 l1 take2 b49000_0 b49000_1 b49000_2 b49000_3 b49000_4 b49000_5 := by
  refine (congrFun (hid_eq _) _).trans <| (P2 l1 take2 b49000_0 b49000_1 b49000_2 b49000_3 b49000_4 b49000_5).trans ?_
  show _ = sh2 l1 take2 b49000_0 b49000_1 b49000_2 b49000_3 b49000_4 b49000_5 (f4 100000)
  simp only [H4]
theorem T1 (delay0 : Int) (l1 : List Msg) (take2 : List Bool) : (hid ct1) (fr1 delay0 l1 take2) = f1 delay0 l1 take2 := by
  refine (congrFun (hid_eq _) _).trans <| (P1 delay0 l1 take2).trans ?_
  show _ = sh1 delay0 l1 take2 f2
  simp only [T2]
theorem T0 (d : Int) (l : List Msg) (tk : List Bool) : exec X bd (.seq none .d (.seq none .d (.seq (some nm1) .d (.seq none .d (.seq (some nm2) .d (.seq none .d (.seq (some nm3) (.seq none .d (.block (.loop nm4 (.seq none .d (.seq none .d (.seq (some nm5) (.block (.seq none .d (.seq none .d (.seq none .d (.seq (some nm6) .d (.seq none .d (.cond (.seq none .d (.seq (some nm7) (.seq none .d (.block (.loop nm8 (.seq none .d (.seq none .d (.seq none (.block (.seq none .d (.seq none (.region [(3, 49000), (3, 504900003), (3, 504900004), (3, 504900005)]) .d))) .d)))))) .d)) .d))))))) .d)))))) (.seq none .d (.seq (some nm9) (.seq none .d (.block (.loop nm10 (.seq none .d (.seq none .d (.seq (some nm11) .d .d)))))) (.seq none .d (.seq none .d (.seq (some nm12) (.seq none .d (.block (.loop nm13 (.seq none .d (.seq none .d (.seq (some nm14) (.block (.seq none .d (.seq none .d (.seq (some nm15) (.seq none (.region [(15, 49000), (15, 504900003), (15, 504900004), (15, 504900005)]) .d) .d)))) .d)))))) .d)))))))))))) (fr0 d l tk) RR (fun _ _ => none) RR = f0 d l tk := by
  refine (P0 d l tk).trans ?_
  show _ = sh0 d l tk f1
  simp only [T1]
theorem run (d : Int) (l : List Msg) (tk : List Bool) : runFn X bd (.seq none .d (.seq none .d (.seq (some nm1) .d (.seq none .d (.seq (some nm2) .d (.seq none .d (.seq (some nm3) (.seq none .d (.block (.loop nm4 (.seq none .d (.seq none .d (.seq (some nm5) (.block (.seq none .d (.seq none .d (.seq none .d (.seq (some nm6) .d (.seq none .d (.cond (.seq none .d (.seq (some nm7) (.seq none .d (.block (.loop nm8 (.seq none .d (.seq none .d (.seq none (.block (.seq none .d (.seq none (.region [(3, 49000), (3, 504900003), (3, 504900004), (3, 504900005)]) .d))) .d)))))) .d)) .d))))))) .d)))))) (.seq none .d (.seq (some nm9) (.seq none .d (.block (.loop nm10 (.seq none .d (.seq none .d (.seq (some nm11) .d .d)))))) (.seq none .d (.seq none .d (.seq (some nm12) (.seq none .d (.block (.loop nm13 (.seq none .d (.seq none .d (.seq (some nm14) (.block (.seq none .d (.seq none .d (.seq (some nm15) (.seq none (.region [(15, 49000), (15, 504900003), (15, 504900004), (15, 504900005)]) .d) .d)))) .d)))))) .d)))))))))))) nmR [6] [] [(.int .i64 d), (.lst .msg l), (.lst .bool tk)] = f0 d l tk := T0 d l tk
theorem count (put out late : List Msg) (s : FS) (hp : put.length ≤ 90) (ho : out.length ≤ 90) (hl : late.length ≤ 90) (hq : ∀ m, m ∈ put → ¬ (m ∈ out ∧ m ∈ late) ∧ (restB out late m = true → s.mk_ ≤ m.at_)) :
    ∀ (n i r : Nat), put.length < n + i → i ≤ put.length → r ≤ i → f13 n put out late (r : Int) (Int.ofNat put.length) (i : Int) s.dl s.mk_ s.ls s.got s.wt s.lt = f12 put out late ((r + ((put.drop i).filter (restB out late)).length : Nat) : Int) := by
  intro n
  induction n with
  | zero => intro i r h1 h2; omega
  | succ n ih =>
    intro i r h1 h2 h3
    show sh13 put out late (r : Int) (Int.ofNat put.length) (i : Int) s.dl s.mk_ s.ls s.got s.wt s.lt f12 (f15 (f13 n)) = _
    unfold sh13
    by_cases hi : i < put.length
    · rw [iltT (show (i : Int) < Int.ofNat put.length by simp; omega), inbT hi, toNat_nat, nltT hi, getD_lt hi, nleT (show out.length ≤ 90000 by omega), nleT (show late.length ≤ 90000 by omega), drop_lt hi, List.filter_cons]
      obtain ⟨q1, q2⟩ := hq put[i] (List.getElem_mem hi)
      have nxt : ∀ (r' : Nat), r' ≤ i + 1 → f14 (f13 n) put out late (r' : Int) (Int.ofNat put.length) (i : Int) s.dl s.mk_ s.ls s.got s.wt s.lt = f12 put out late ((r' + ((put.drop (i + 1)).filter (restB out late)).length : Nat) : Int) := fun r' hr' => by
        show f13 n put out late (r' : Int) (Int.ofNat put.length) (IntKind.wrap .i64 ((i : Int) + 1)) s.dl s.mk_ s.ls s.got s.wt s.lt = _
        rw [wrapS i (by omega)]
        exact ih (i + 1) r' (by omega) hi hr'
      unfold restB at q2
      cases ha : ile 0 (idxZ put[i] out) <;> cases hb : ile 0 (idxZ put[i] late)
      · have hr : restB out late put[i] = true := by unfold restB; rw [ha, hb]; rfl
        rw [ha, hb] at q2
        have := q2 rfl
        simp only [hr, if_true, Bool.not_false, condT, condF, chkT]
        rw [iltF (show ¬ Msg.at_ put[i] < s.mk_ by omega)]
        show f14 (f13 n) put out late (IntKind.wrap .i64 ((r : Int) + 1)) (Int.ofNat put.length) (i : Int) s.dl s.mk_ s.ls s.got s.wt s.lt = _
        rw [wrapS r (by omega), nxt (r + 1) (by omega), List.length_cons]
        congr 2
        omega
      · have hr : restB out late put[i] = false := by unfold restB; rw [ha, hb]; rfl
        simp only [hr, Bool.false_eq_true, if_false, Bool.not_false, Bool.not_true, condT, condF, chkT]
        exact nxt r (by omega)
      · have hr : restB out late put[i] = false := by unfold restB; rw [ha, hb]; rfl
        simp only [hr, Bool.false_eq_true, if_false, Bool.not_false, Bool.not_true, condT, condF, chkT]
        exact nxt r (by omega)
      · exact absurd ⟨in_iff.1 ha, in_iff.1 hb⟩ q1
    · have : i = put.length := by omega
      subst this
      rw [iltF (by simp), List.drop_length]
      rfl
theorem rise (put out : List Msg) (s : FS) (ho : out.length ≤ 90) (hs : out.Pairwise fun a b => beforeB a b = true) :
    ∀ (n i : Nat), out.length < n + i → i ≤ out.length → f10 n put out (Int.ofNat out.length) (i : Int) s.dl s.mk_ s.ls s.got s.wt s.lt = f9 put out s.dl s.mk_ s.ls s.got s.wt s.lt := by
  intro n
  induction n with
  | zero => intro i h1 h2; omega
  | succ n ih =>
    intro i h1 h2
    show sh10 put out (Int.ofNat out.length) (i : Int) s.dl s.mk_ s.ls s.got s.wt s.lt f9 (f11 (f10 n)) = _
    unfold sh10
    by_cases hi : i < out.length
    · have nxt : f11 (f10 n) put out (Int.ofNat out.length) (i : Int) s.dl s.mk_ s.ls s.got s.wt s.lt = f9 put out s.dl s.mk_ s.ls s.got s.wt s.lt := by
        show f10 n put out (Int.ofNat out.length) (IntKind.wrap .i64 ((i : Int) + 1)) s.dl s.mk_ s.ls s.got s.wt s.lt = _
        rw [wrapS i (by omega)]
        exact ih (i + 1) (by omega) hi
      rw [iltT (show (i : Int) < Int.ofNat out.length by simp; omega), condT]
      by_cases h0 : i = 0
      · subst h0
        exact nxt
      · rw [iltT (show (0 : Int) < (i : Int) by omega), wrapP i (by omega) (by omega), inbT (show i - 1 < out.length by omega), toNat_nat, toNat_nat, nltT (show i - 1 < out.length by omega), inbT hi, nltT hi, getD_lt (show i - 1 < out.length by omega), getD_lt hi]
        rw [List.pairwise_iff_getElem.1 hs (i - 1) i (by omega) hi (by omega)]
        exact nxt
    · have : i = out.length := by omega
      subst this
      rw [iltF (by simp)]
      rfl
theorem fin {s : FS} {x : RF} {out : List Msg} {z : Int} (h : Ord s x out z) (hx : x.gt.length ≤ 30) : f3 x.gt out s.dl s.mk_ s.ls s.got s.wt s.lt = outB true := by
  have h' := ord_ready h
  have hl := ord_len h
  have hl' := ord_len h'
  have hrl : (out ++ readyL s).length ≤ 30 := by have : (rreadyF x).gt = x.gt := rfl; rw [this] at hl'; omega
  show sh3 x.gt out s.dl s.mk_ s.ls s.got s.wt s.lt (f10 100000) = _
  unfold sh3
  rw [show sortM (List.filter (fun m => ilt (Msg.at_ m) s.mk_) s.wt) = readyL s from rfl]
  have hrl2 : (readyL s).length ≤ 30 := by simp only [List.length_append] at hrl; omega
  rw [h.side.keys, nleT (show s.wt.length ≤ 90000 by omega), capT (by omega) (by omega)]
  refine (rise x.gt (out ++ readyL s) (readyS s) (by omega) h'.srt 100000 0 (by omega) (by omega)).trans ?_
  show sh9 x.gt (out ++ readyL s) s.dl s.mk_ s.ls s.got (readyS s).wt s.lt (f13 100000) = _
  unfold sh9
  rw [nleT (show s.lt.length ≤ 90000 by omega), chkT]
  obtain ⟨r1, r2⟩ := rest_count h'
  refine (count x.gt (out ++ readyL s) s.lt (readyS s) (by omega) (by omega) (by omega) (fun m hm => ⟨(r2 m hm).1, fun hr => h'.wz m ((r2 m hm).2 hr)⟩) 100000 0 0 (by omega) (by omega) (by omega)).trans ?_
  rw [List.drop_zero, show x.gt.filter (restB (out ++ readyL s) s.lt) = (rreadyF x).gt.filter (restB (out ++ readyL s) (readyS s).lt) from rfl, r1]
  show sh12 x.gt (out ++ readyL s) s.lt _ = _
  unfold sh12
  have hw : (readyS s).wt.length ≤ 30 := by have : (rreadyF x).gt = x.gt := rfl; rw [this] at hl'; omega
  have hs : (readyS s).lt.length = s.lt.length := rfl
  rw [wrapI (x := Int.ofNat (out ++ readyL s).length + Int.ofNat s.lt.length) (by simp; omega) (by simp at hrl ⊢; omega), wrapI (by simp; omega) (by simp at hrl ⊢; omega)]
  rw [show (Int.ofNat (out ++ readyL s).length + Int.ofNat s.lt.length + ((0 + (readyS s).wt.length : Nat) : Int)) = Int.ofNat x.gt.length by
    have : (rreadyF x).gt = x.gt := rfl
    rw [this, hs] at hl'
    simp only [Int.ofNat_eq_natCast]
    omega]
  rw [beq_self_eq_true]
  rfl
theorem loop (l : List Msg) (tk : List Bool) (hl : l.length ≤ 30) (ht : tk.length ≤ 40) : ∀ (n i : Nat) (s : FS) (x : RF) (out : List Msg) (z : Int), l.length < n + i → i ≤ l.length → Ord s x out z → x.gt.length ≤ i →
    f4 n tk x.gt out l (Int.ofNat l.length) (i : Int) s.dl s.mk_ s.ls s.got s.wt s.lt = outB true := by
  intro n
  induction n with
  | zero => intro i s x out z h1 h2; omega
  | succ n ih =>
    intro i s x out z h1 h2 h h3
    show sh4 tk x.gt out l (Int.ofNat l.length) (i : Int) s.dl s.mk_ s.ls s.got s.wt s.lt f3 (f6 (f4 n)) = _
    unfold sh4
    by_cases hi : i < l.length
    · have hlen := ord_len h
      rw [iltT (show (i : Int) < Int.ofNat l.length by simp; omega), inbT hi, toNat_nat, getD_lt hi, nleT (show s.lt.length ≤ 90000 by omega)]
      rw [show (⟨s.dl, s.mk_, s.ls, s.got, s.wt, s.lt⟩ : FS) = s from rfl, side_fsOk h.side]
      have h' := ord_put h l[i] (by omega)
      have hg : (rputF x l[i]).gt = bif putE s l[i] == 0 then x.gt ++ [l[i]] else x.gt := by rw [side_putE h.side]; rfl
      have hlt : (putS s l[i]).lt = bif putE s l[i] == 0 then (bif ilt (Msg.at_ l[i]) s.mk_ then s.lt ++ [l[i]] else s.lt) else s.lt := rfl
      have hmk : (putE s l[i] == 0) = false → (putS s l[i]).mk_ = s.mk_ := fun e => by unfold putS; rw [e]; rfl
      have hmono := put_mono s l[i]
      have hd : s.dl = (putS s l[i]).dl := rfl
      have hlen' := ord_len h'
      have hgl : (rputF x l[i]).gt.length ≤ i + 1 := by
        rw [hg]
        cases putE s l[i] == 0 <;> simp <;> omega
      rw [capT (by omega) (by simp), nleT (show (putS s l[i]).lt.length ≤ 90000 by omega), iltF (show ¬ (putS s l[i]).mk_ < s.mk_ by omega)]
      rw [hd]
      generalize hs' : putS s l[i] = s' at *
      generalize hx' : rputF x l[i] = x' at *
      -- what comes behind
      have next : ∀ (s1 : FS) (x1 : RF) (out1 : List Msg) (z1 : Int), Ord s1 x1 out1 z1 → x1.gt.length ≤ i + 1 → f5 (f4 n) tk x1.gt out1 l (Int.ofNat l.length) (i : Int) s1.dl s1.mk_ s1.ls s1.got s1.wt s1.lt = outB true := fun s1 x1 out1 z1 hs hg1 => by
        show f4 n tk x1.gt out1 l (Int.ofNat l.length) (IntKind.wrap .i64 ((i : Int) + 1)) s1.dl s1.mk_ s1.ls s1.got s1.wt s1.lt = _
        rw [wrapS i (by omega)]
        exact ih (i + 1) s1 x1 out1 z1 (by omega) hi hs hg1
      have low : ∀ (k j : Nat) (rd : List Msg), (∀ m, m ∈ rd → m.at_ < s'.mk_) → rd.length ≤ 30 → out.length ≤ 30 → rd.length < k + j → j ≤ rd.length →
          f8 (f4 n) k tk x'.gt out rd l (Int.ofNat l.length) (i : Int) (Int.ofNat rd.length) (j : Int) s'.dl s'.mk_ s'.ls s'.got (readyS s').wt s'.lt = f5 (f4 n) tk x'.gt (out ++ rd) l (Int.ofNat l.length) (i : Int) s'.dl s'.mk_ s'.ls s'.got (readyS s').wt s'.lt := by
        intro k
        induction k with
        | zero => intro j rd _ _ _ g1 g2; omega
        | succ k ihk =>
          intro j rd g0 g3 g4 g1 g2
          show sh8 tk x'.gt out rd l (Int.ofNat l.length) (i : Int) (Int.ofNat rd.length) (j : Int) s'.dl s'.mk_ s'.ls s'.got (readyS s').wt s'.lt (f7 (f4 n)) (f8 (f4 n) k) = _
          unfold sh8
          by_cases hj : j < rd.length
          · have := g0 rd[j] (List.getElem_mem hj)
            rw [iltT (show (j : Int) < Int.ofNat rd.length by simp; omega), inbT hj, toNat_nat, nltT hj, getD_lt hj, ileF (show ¬ s'.mk_ ≤ Msg.at_ rd[j] by omega), wrapS j (by omega)]
            exact ihk (j + 1) rd g0 g3 g4 (by omega) hj
          · have : j = rd.length := by omega
            subst this
            rw [iltF (by simp)]
            show sh7 tk x'.gt out rd l (Int.ofNat l.length) (i : Int) s'.dl s'.mk_ s'.ls s'.got (readyS s').wt s'.lt (f5 (f4 n)) = _
            unfold sh7
            rw [capT (by omega) (by omega)]
            rfl
      have mid : f6 (f4 n) tk x'.gt out (i : Int) l (Int.ofNat l.length) (i : Int) s'.dl s'.mk_ s'.ls s'.got s'.wt s'.lt = outB true := by
        show sh6 tk x'.gt out (i : Int) l (Int.ofNat l.length) (i : Int) s'.dl s'.mk_ s'.ls s'.got s'.wt s'.lt (f5 (f4 n)) (f8 (f4 n) 100000) = _
        unfold sh6
        by_cases hj : i < tk.length
        · rw [iltT (show (i : Int) < Int.ofNat tk.length by simp; omega), inbT hj]
          cases List.getD tk (Int.toNat (i : Int)) d_bool
          · exact next s' x' out z h' hgl
          · rw [h'.side.keys, nleT (show s'.wt.length ≤ 90000 by omega)]
            have hr := ord_ready h'
            have hrl := ord_len hr
            simp only [List.length_append] at hrl
            have hrg : (rreadyF x').gt = x'.gt := rfl
            rw [hrg] at hrl
            refine (low 100000 0 (readyL s') (fun m hm => (ready_lt hm).1) (by omega) (by omega) (by omega) (by omega)).trans ?_
            exact next (readyS s') (rreadyF x') (out ++ readyL s') s'.mk_ hr hgl
        · rw [iltF (show ¬ (i : Int) < Int.ofNat tk.length by simp; omega)]
          exact next s' x' out z h' hgl
      cases hE : putE s l[i] == 0
      · rw [hE] at hg hlt
        simp only [cond_false] at hg hlt
        rw [hmk hE, hlt, show (s.mk_ != s.mk_) = false by simp, show (Int.ofNat s.lt.length != Int.ofNat s.lt.length) = false by simp]
        simp only [condT, condF, chkT]
        rw [hg, hmk hE, hlt] at mid
        exact mid
      · rw [hE] at hg hlt
        simp only [cond_true] at hg hlt
        rw [hg] at mid
        cases hc : ilt (Msg.at_ l[i]) s.mk_
        · rw [hc] at hlt
          simp only [cond_false] at hlt
          rw [hlt] at mid ⊢
          rw [show (Int.ofNat s.lt.length != Int.ofNat s.lt.length) = false by simp, show (Int.ofNat s.lt.length == Int.ofNat s.lt.length) = true by simp]
          exact mid
        · rw [hc] at hlt
          simp only [cond_true] at hlt
          have := iltI hc
          rw [hlt] at mid ⊢
          rw [show (Int.ofNat (s.lt ++ [l[i]]).length != Int.ofNat s.lt.length) = true by simp; omega, show (Int.ofNat (s.lt ++ [l[i]]).length == Int.ofNat s.lt.length) = false by simp; omega, ileF (show ¬ s.mk_ ≤ Msg.at_ l[i] by omega)]
          exact mid
    · have : i = l.length := by omega
      subst this
      rw [iltF (by simp)]
      exact fin h (by omega)
theorem f0_eq (d : Int) (l : List Msg) (tk : List Bool) : f0 d l tk = outB true := by
  show sh0 d l tk f1 = _
  unfold sh0
  by_cases hl : l.length ≤ 30
  · rw [iltF (show ¬ (30 : Int) < Int.ofNat l.length by simp; omega), ileT (show (30 : Int) ≤ 80000 by decide)]
    simp only [condT, condF, chkT, Bool.not_true]
    cases manyB l 30
    rotate_left
    · rfl
    by_cases ht : tk.length ≤ 40
    · rw [iltF (show ¬ (40 : Int) < Int.ofNat tk.length by simp; omega)]
      by_cases h0 : 0 ≤ d
      · by_cases h1 : d ≤ 68719476736
        · rw [iltF (show ¬ d < 0 by omega), iltF (show ¬ (68719476736 : Int) < d by omega)]
          show sh1 d l tk f2 = _
          unfold sh1
          rw [ileT h0, ileT h1]
          exact loop l tk hl ht 100000 0 _ _ [] _ (by omega) (by omega) (ord_start h0 h1) (by simp)
        · rw [iltT (show (68719476736 : Int) < d by omega)]
          cases ilt d 0 <;> rfl
      · rw [iltT (show d < 0 by omega)]
        rfl
    · rw [iltT (show (40 : Int) < Int.ofNat tk.length by simp; omega)]
      rfl
  · rw [iltT (show (30 : Int) < Int.ofNat l.length by simp; omega)]
    rfl
theorem ok : CtxOk Try.prog X := ctxOk tab (by
  intro p hp
  simp only [List.mem_cons, List.not_mem_nil, or_false] at hp
  rcases hp with rfl | rfl | rfl | rfl
  · exact awake.spOk
  · exact many.spOk
  · exact rbefore.spOk
  · exact containsM.spOk) (by
  intro p hp
  simp only [List.mem_cons, List.not_mem_nil, or_false] at hp
  rcases hp with rfl
  · exact ⟨fmark.spOk, fmark.spDet⟩)
theorem okM : MOk Try.prog X := mspecOf_ok _ (by
  intro p hp
  simp only [List.mem_cons, List.not_mem_nil, or_false] at hp
  rcases hp with rfl | rfl | rfl | rfl | rfl
  · exact mcSp_ok ok newF.spOk
  · exact mcSp_ok ok (orN_ok fputN.spOk fput.spOk)
  · exact mcSp_ok ok (orN_ok fmarkN.spOk fmark.spOk)
  · exact mcSp_ok ok (orN_ok flateN.spOk flate.spOk)
  · exact mcSp_ok ok (orN_ok freadyN.spOk fready.spOk))
theorem spec (d : Int) (l : List Msg) (tk : List Bool) : CallSpec Try.prog E 4 [(.int .i64 d), (.lst .msg l), (.lst .bool tk)] (.bool (true)) [] :=
  runFn_sound ok okM Try.call4 Try.func4 (by kernel_rfl) (by kernel_rfl) (by kernel_rfl) (by show 3 ≤ 224; decide) (by decide) (by rfl) ((run d l tk).trans (f0_eq d l tk))
noncomputable def sp : Sp U El := fun args k => match args with
  | [.int .i64 d, .lst .msg l, .lst .bool tk] => k (.bool (true)) []
  | _ => none
theorem spOk : SpOk Try.prog E 4 sp where
  det := fun vs => by
    unfold sp
    split
    · exact ⟨some (_, _), fun _ => rfl⟩
    · exact ⟨none, fun _ => rfl⟩
  ok := fun vs k r h => by
    unfold sp at h
    split at h
    · exact ⟨_, _, spec _ _ _, h⟩
    · cases h
end lawOrder
end Go.Proofs.Ytkeplmpcijigaaa
