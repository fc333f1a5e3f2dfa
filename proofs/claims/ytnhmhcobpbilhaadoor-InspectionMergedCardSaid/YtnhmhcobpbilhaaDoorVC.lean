/- Right, the order, Valid: the code's and the document's. -/
import Derived.Test.YtnhmhcobpbilhaaDoorVB
namespace Go.Proofs.YtnhmhcobpbilhaaDoor
set_option linter.unusedSectionVars false
set_option linter.unusedSimpArgs false
set_option linter.unusedVariables false
set_option maxRecDepth 100000

noncomputable def pos16 (L : Int) : Bool := ile 1 L && ile L 16777216
theorem pos16_iff {L : Int} : pos16 L = true ↔ 1 ≤ L ∧ L ≤ 16777216 := by simp [pos16, ile]
noncomputable def rightB (L : Int) (d : Df) : Bool := ilt 0 (pointsZ d.c) && (ile 0 d.a && (ile d.a L && (ile 0 d.l && (ile d.l (L - d.a) && (ile 1 d.s && ile d.s 5)))))
noncomputable def beforeB (d e : Df) : Bool := bif d.a != e.a then ilt d.a e.a else bif !(d.c == e.c) then slt d.c e.c else bif d.l != e.l then ilt d.l e.l else ilt d.s e.s
theorem slt_irrefl (l : List UInt8) : slt l l = false := by
  unfold slt
  induction l with
  | nil => rfl
  | cons x l ih => simp [Op.bytesLess, ih]
theorem cmpZ_cases (a b : Int) : (a < b ∧ cmpZ a b = -1) ∨ (a = b ∧ cmpZ a b = 0) ∨ (b < a ∧ cmpZ a b = 1) := by
  unfold cmpZ
  by_cases h : a < b
  · left; rw [iltT h]; exact ⟨h, rfl⟩
  · by_cases h2 : b < a
    · right; right; rw [iltF h, iltT h2]; exact ⟨h2, rfl⟩
    · right; left; rw [iltF h, iltF h2]; exact ⟨by omega, rfl⟩
theorem cmpS_cases (a b : List UInt8) : (slt a b = true ∧ (a == b) = false ∧ cmpS a b = -1) ∨ ((a == b) = true ∧ cmpS a b = 0) ∨ (slt a b = false ∧ (a == b) = false ∧ cmpS a b = 1) := by
  unfold cmpS
  by_cases e : a = b
  · subst e; right; left; simp [slt_irrefl]
  · have e2 : (a == b) = false := by simpa using e
    cases h : slt a b
    · right; right; simp [e2]
    · left; simp [e2]
theorem before_compare (d e : Df) : ile 0 (compareZ d e) = !(beforeB d e) := by
  unfold compareZ beforeB
  rcases cmpZ_cases d.a e.a with ⟨h, e1⟩ | ⟨h, e1⟩ | ⟨h, e1⟩
  · rw [e1, show (d.a != e.a) = true by simp; omega, iltT h]; rfl
  · rw [e1, show (d.a != e.a) = false by simp [h]]
    rcases cmpS_cases d.c e.c with ⟨h, h3, e2⟩ | ⟨h3, e2⟩ | ⟨h, h3, e2⟩
    · rw [e2, h3, h]; rfl
    · rw [e2, h3]
      rcases cmpZ_cases d.l e.l with ⟨h, e1⟩ | ⟨h, e1⟩ | ⟨h, e1⟩
      · rw [e1, show (d.l != e.l) = true by simp; omega, iltT h]; rfl
      · rw [e1, show (d.l != e.l) = false by simp [h]]
        rcases cmpZ_cases d.s e.s with ⟨h, e1⟩ | ⟨h, e1⟩ | ⟨h, e1⟩
        · rw [e1, iltT h]; rfl
        · rw [e1, iltF (show ¬ d.s < e.s by omega)]; rfl
        · rw [e1, iltF (show ¬ d.s < e.s by omega)]; rfl
      · rw [e1, show (d.l != e.l) = true by simp; omega, iltF (show ¬ d.l < e.l by omega)]; rfl
    · rw [e2, h3, h]; rfl
  · rw [e1, show (d.a != e.a) = true by simp; omega, iltF (by omega)]; rfl

noncomputable def befO : Option Df → Df → Bool
  | none, _ => true
  | some q, d => beforeB q d
noncomputable def chainB (L : Int) : Option Df → List Df → Bool
  | _, [] => true
  | p, d :: l => rightB L d && (befO p d && chainB L (some d) l)
theorem befO_some (q d : Df) : befO (some q) d = beforeB q d := rfl
noncomputable def validB (L : Int) (l : List Df) : Bool := pos16 L && (nle l.length 1000 && chainB L none l)
noncomputable def prev (l : List Df) : Nat → Option Df
  | 0 => none
  | i + 1 => l[i]?

namespace right
noncomputable def bd : Code := (Tryd.f45.body).getD .skip
noncomputable def X : Ctx U El := ⟨E, tds, zeros, eqs, specOf [(56, points.sp)], 100000, 44, fun _ => none⟩
noncomputable def nmR : Norm U := ⟨[], [4], [], [], [], []⟩
noncomputable def RR : Kont U El := fun st => normK nmR st (retFin [4] [])
noncomputable def fr0 (d : Df) (L : Int) : St U El := ⟨[(0, (.agg [(.str d.c), (.int .i64 d.a), (.int .i64 d.l), (.int .i64 d.s)])), (1, (.int .i64 L))], []⟩
noncomputable def sh0 (d : Df) (L : Int) : R :=
  condB (ilt (0 : Int) (pointsZ d.c)) (condB (ile (0 : Int) d.a) (condB (ile d.a L) (condB (ile (0 : Int) d.l) (condB (ile d.l (IntKind.wrap .i64 (L - d.a))) (condB (ile (1 : Int) d.s) (some ((.bool (ile d.s (5 : Int))), [])) (some ((.bool false), []))) (some ((.bool false), []))) (some ((.bool false), []))) (some ((.bool false), []))) (some ((.bool false), []))) (some ((.bool false), []))
theorem P0 (d : Df) (L : Int) : exec X (cdp [] bd) .d (fr0 d L) RR (fun _ _ => none) RR = sh0 d L := by kernel_rfl
noncomputable def f0 (d : Df) (L : Int) : R := sh0 d L
theorem T0 (d : Df) (L : Int) : exec X bd .d (fr0 d L) RR (fun _ _ => none) RR = f0 d L := by
  refine (P0 d L).trans ?_
  show _ = sh0 d L
  rfl
theorem run (d : Df) (L : Int) : runFn X bd .d nmR [4] [] [(.agg [(.str d.c), (.int .i64 d.a), (.int .i64 d.l), (.int .i64 d.s)]), (.int .i64 L)] = f0 d L := T0 d L
theorem f0_eq (d : Df) (L : Int) (h : pos16 L = true) : f0 d L = some (.bool (rightB L d), []) := by
  have hL := pos16_iff.1 h
  unfold f0 sh0 rightB
  cases h1 : ilt 0 (pointsZ d.c); · rfl
  cases h2 : ile 0 d.a; · rfl
  cases h3 : ile d.a L; · rfl
  have e2 : 0 ≤ d.a := of_decide_eq_true h2
  have e3 : d.a ≤ L := of_decide_eq_true h3
  rw [wrapI (by omega) (by omega)]
  cases ile 0 d.l; · rfl
  cases ile d.l (L - d.a); · rfl
  cases ile 1 d.s; · rfl
  rfl
theorem ok : CtxOk Tryd.prog X := ctxOk tab (by
  intro p hp
  simp only [List.mem_cons, List.not_mem_nil, or_false] at hp
  rcases hp with rfl
  · exact points.spOk)
theorem okM : MOk Tryd.prog X := fun g sp h => by cases h
theorem spec (d : Df) (L : Int) (h : (pos16 L) = true) : CallSpec Tryd.prog E 45 [(.agg [(.str d.c), (.int .i64 d.a), (.int .i64 d.l), (.int .i64 d.s)]), (.int .i64 L)] (.bool (rightB L d)) [] :=
  runFn_sound ok okM Tryd.call45 Tryd.func45 (by kernel_rfl) (by kernel_rfl) (by kernel_rfl) (by show 2 ≤ 44; decide) (by decide) (by rfl) ((run d L).trans (f0_eq d L h))
noncomputable def sp : Sp U El := fun args k => match args with
  | [.agg [.str d_c, .int .i64 d_a, .int .i64 d_l, .int .i64 d_s], .int .i64 L] => chk (pos16 L) (k (.bool (rightB L (⟨d_c, d_a, d_l, d_s⟩ : Df))) [])
  | _ => none
theorem spOk : SpOk Tryd.prog E 45 sp where
  det := fun vs => by
    unfold sp
    split
    · rename_i d_c d_a d_l d_s L
      cases hb : (pos16 L)
      · exact ⟨none, fun _ => rfl⟩
      · exact ⟨some (_, _), fun _ => rfl⟩
    · exact ⟨none, fun _ => rfl⟩
  ok := fun vs k r h => by
    unfold sp at h
    split at h
    · obtain ⟨h1, h2⟩ := chk_some h
      exact ⟨_, _, spec ⟨_, _, _, _⟩ _ h1, h2⟩
    · cases h
end right
namespace rpoints
noncomputable def bd : Code := (Tryd.f57.body).getD .skip
noncomputable def X : Ctx U El := ⟨E, tds, zeros, eqs, specOf [], 100000, 24, fun _ => none⟩
noncomputable def nmR : Norm U := ⟨[], [2], [], [], [], []⟩
noncomputable def RR : Kont U El := fun st => normK nmR st (retFin [2] [])
noncomputable def nm1 : Norm U := ⟨[], [], [], [], [], []⟩
noncomputable def nm2 : Norm U := ⟨[(3, .str), (4, .int)], [0, 3, 4, 5], [3, 4], [], [], []⟩
noncomputable def fr0 (c : List UInt8) : St U El := ⟨[(0, (.str c))], []⟩
noncomputable def fr1 : St U El := ⟨[], []⟩
noncomputable def fr2 (code0 : List UInt8) (codes3 : List (List UInt8)) (points4 : List Int) (i5 : Int) : St U El := ⟨[(0, (.str code0)), (3, (.ful 3)), (4, (.ful 4)), (5, (.int .i64 i5))], [(3, (.rows .str codes3)), (4, (.rows .int points4))]⟩
noncomputable def sh0 (c : List UInt8) (k2 : (List UInt8) → (List (List UInt8)) → (List Int) → Int → R) : R :=
  k2 c ([([67, 82] : List UInt8), ([70, 82] : List UInt8), ([66, 82] : List UInt8), ([68, 74] : List UInt8), ([82, 79] : List UInt8), ([68, 69] : List UInt8), ([73, 78] : List UInt8), ([79, 66] : List UInt8), ([67, 79] : List UInt8)] : List (List UInt8)) ([(2 : Int), (5 : Int), (20 : Int), (3 : Int), (4 : Int), (1 : Int), (3 : Int), (6 : Int), (4 : Int)] : List Int) (0 : Int)
noncomputable def sh1 : R :=
  some ((.int .i64 (0 : Int)), [])
noncomputable def sh2 (code0 : List UInt8) (codes3 : List (List UInt8)) (points4 : List Int) (i5 : Int) (k1 : R) (k2 : (List UInt8) → (List (List UInt8)) → (List Int) → Int → R) : R :=
  condB (ilt i5 (Int.ofNat (List.length codes3))) (chk (inb i5 (List.length codes3)) (chk (nlt (Int.toNat i5) (List.length codes3)) (condB ((List.getD codes3 (Int.toNat i5) d_str) == code0) (chk (inb i5 (List.length points4)) (chk (nlt (Int.toNat i5) (List.length points4)) (some ((.int .i64 (List.getD points4 (Int.toNat i5) d_int)), [])))) (k2 code0 codes3 points4 (IntKind.wrap .i64 (i5 + (1 : Int))))))) (k1)
noncomputable def it2 (Kb1 : Kont U El) (n : Nat) : Kont U El := iter nm2 (fun st' K' => exec X (cdp [1, 1, 1, 0, 1, 0, 0] bd) .d st' K' (Eblk 0 (cutK nm1 Kb1) (fun _ _ => none)) RR) n
noncomputable def ct1 : Kont U El := fun st => exec X (cdp [1, 1, 1, 1] bd) .d st RR (fun _ _ => none) RR
theorem P0 (c : List UInt8) : exec X (cdp [] bd) (.seq none .d (.seq none .d (.seq none .d (.seq (some nm1) (.seq none .d (.block (.loop nm2 .d))) .d)))) (fr0 c) RR (fun _ _ => none) RR = sh0 c (fun y0 y1 y2 y3 => (hid (it2 (hid ct1) 100000)) (fr2 y0 y1 y2 y3)) := by kernel_rfl
theorem P1 : exec X (cdp [1, 1, 1, 1] bd) .d (fr1) RR (fun _ _ => none) RR = sh1 := by kernel_rfl
theorem P2 (code0 : List UInt8) (codes3 : List (List UInt8)) (points4 : List Int) (i5 : Int) (Kb1 : Kont U El) (Kb2 : Kont U El) : exec X (cdp [1, 1, 1, 0, 1, 0, 0] bd) .d (fr2 code0 codes3 points4 i5) (cutK nm2 Kb2) (Eblk 0 (cutK nm1 Kb1) (fun _ _ => none)) RR = sh2 code0 codes3 points4 i5 (Kb1 (fr1)) (fun y0 y1 y2 y3 => Kb2 (fr2 y0 y1 y2 y3)) := by kernel_rfl
noncomputable def f1 : R := sh1
noncomputable def f2 : Nat → (List UInt8) → (List (List UInt8)) → (List Int) → Int → R
  | 0 => fun _ _ _ _ => none
  | n + 1 => fun code0 codes3 points4 i5 => sh2 code0 codes3 points4 i5 f1 (f2 n)
noncomputable def f0 (c : List UInt8) : R := sh0 c (f2 100000)
theorem T1 : (hid ct1) (fr1) = f1 := by
  refine (congrFun (hid_eq _) _).trans <| (P1).trans ?_
  show _ = sh1
  rfl
theorem T2 : ∀ (n : Nat), ∀ code0 codes3 points4 i5, it2 (hid ct1) n (fr2 code0 codes3 points4 i5) = f2 n code0 codes3 points4 i5 := by
  intro n
  induction n with
  | zero => intros; rfl
  | succ n ih =>
    intro code0 codes3 points4 i5
    refine (P2 code0 codes3 points4 i5 (hid ct1) (it2 (hid ct1) n)).trans ?_
    show _ = sh2 code0 codes3 points4 i5 f1 (f2 n)
    simp only [T1, ih]
theorem H2 (code0 : List UInt8) (codes3 : List (List UInt8)) (points4 : List Int) (i5 : Int) : hid (it2 (hid ct1) 100000) (fr2 code0 codes3 points4 i5) = f2 100000 code0 codes3 points4 i5 := (congrFun (hid_eq _) _).trans (T2 100000 code0 codes3 points4 i5)
theorem T0 (c : List UInt8) : exec X bd (.seq none .d (.seq none .d (.seq none .d (.seq (some nm1) (.seq none .d (.block (.loop nm2 .d))) .d)))) (fr0 c) RR (fun _ _ => none) RR = f0 c := by
  refine (P0 c).trans ?_
  show _ = sh0 c (f2 100000)
  simp only [H2]
theorem run (c : List UInt8) : runFn X bd (.seq none .d (.seq none .d (.seq none .d (.seq (some nm1) (.seq none .d (.block (.loop nm2 .d))) .d)))) nmR [2] [] [(.str c)] = f0 c := T0 c
def codes : List (List UInt8) := [[67, 82], [70, 82], [66, 82], [68, 74], [82, 79], [68, 69], [73, 78], [79, 66], [67, 79]]
def pts : List Int := [2, 5, 20, 3, 4, 1, 3, 6, 4]
theorem skip (c : List UInt8) (n i : Nat) (h : i < 9) (hc : (List.getD codes i d_str == c) = false) : f2 (n + 1) c codes pts (i : Int) = f2 n c codes pts ((i + 1 : Nat) : Int) := by
  have ew : IntKind.wrap .i64 ((i : Int) + 1) = ((i + 1 : Nat) : Int) := by rw [wrapI (by omega) (by omega)]; omega
  have el : codes.length = 9 := rfl
  show sh2 c codes pts i f1 (f2 n) = _
  unfold sh2
  rw [el, iltT (by simp; omega), inbT h, ew, toNat_nat, show nlt i 9 = true from decide_eq_true h, hc]
  rfl
theorem f0_eq (c : List UInt8) : f0 c = some (.int .i64 (pointsZ c), []) := by
  by_cases h1 : c = [67, 82]; · subst h1; kernel_rfl
  by_cases h2 : c = [70, 82]; · subst h2; kernel_rfl
  by_cases h3 : c = [66, 82]; · subst h3; kernel_rfl
  by_cases h4 : c = [68, 74]; · subst h4; kernel_rfl
  by_cases h5 : c = [82, 79]; · subst h5; kernel_rfl
  by_cases h6 : c = [68, 69]; · subst h6; kernel_rfl
  by_cases h7 : c = [73, 78]; · subst h7; kernel_rfl
  by_cases h8 : c = [79, 66]; · subst h8; kernel_rfl
  by_cases h9 : c = [67, 79]; · subst h9; kernel_rfl
  have e : pointsZ c = 0 := by simp only [pointsZ, beq_false_of_ne h1, beq_false_of_ne h2, beq_false_of_ne h3, beq_false_of_ne h4, beq_false_of_ne h5, beq_false_of_ne h6, beq_false_of_ne h7, beq_false_of_ne h8, beq_false_of_ne h9, Bool.or_false, cond_false]
  have no : ∀ x : List UInt8, ¬ c = x → (x == c) = false := fun x h => by simpa using fun e => h e.symm
  rw [e]
  show f2 100000 c codes pts ((0 : Nat) : Int) = _
  rw [skip c 99999 0 (by decide) (no _ h1), skip c 99998 1 (by decide) (no _ h2), skip c 99997 2 (by decide) (no _ h3), skip c 99996 3 (by decide) (no _ h4), skip c 99995 4 (by decide) (no _ h5),
    skip c 99994 5 (by decide) (no _ h6), skip c 99993 6 (by decide) (no _ h7), skip c 99992 7 (by decide) (no _ h8), skip c 99991 8 (by decide) (no _ h9)]
  rfl
theorem ok : CtxOk Tryd.prog X := ctxOk tab (by
  intro p hp
  cases hp)
theorem okM : MOk Tryd.prog X := fun g sp h => by cases h
theorem spec (c : List UInt8) : CallSpec Tryd.prog E 57 [(.str c)] (.int .i64 (pointsZ c)) [] :=
  runFn_sound ok okM Tryd.call57 Tryd.func57 (by kernel_rfl) (by kernel_rfl) (by kernel_rfl) (by show 1 ≤ 24; decide) (by decide) (by rfl) ((run c).trans (f0_eq c))
noncomputable def sp : Sp U El := fun args k => match args with
  | [.str c] => k (.int .i64 (pointsZ c)) []
  | _ => none
theorem spOk : SpOk Tryd.prog E 57 sp where
  det := fun vs => by
    unfold sp
    split
    · exact ⟨some (_, _), fun _ => rfl⟩
    · exact ⟨none, fun _ => rfl⟩
  ok := fun vs k r h => by
    unfold sp at h
    split at h
    · exact ⟨_, _, spec _, h⟩
    · cases h
end rpoints
namespace rright
noncomputable def bd : Code := (Tryd.f39.body).getD .skip
noncomputable def X : Ctx U El := ⟨E, tds, zeros, eqs, specOf [(57, rpoints.sp)], 100000, 44, fun _ => none⟩
noncomputable def nmR : Norm U := ⟨[], [4], [], [], [], []⟩
noncomputable def RR : Kont U El := fun st => normK nmR st (retFin [4] [])
noncomputable def fr0 (d : Df) (L : Int) : St U El := ⟨[(0, (.agg [(.str d.c), (.int .i64 d.a), (.int .i64 d.l), (.int .i64 d.s)])), (1, (.int .i64 L))], []⟩
noncomputable def sh0 (d : Df) (L : Int) : R :=
  condB (ilt (0 : Int) (pointsZ d.c)) (condB (ile (0 : Int) d.a) (condB (ile d.a L) (condB (ile (0 : Int) d.l) (condB (ile d.l (IntKind.wrap .i64 (L - d.a))) (condB (ile (1 : Int) d.s) (some ((.bool (ile d.s (5 : Int))), [])) (some ((.bool false), []))) (some ((.bool false), []))) (some ((.bool false), []))) (some ((.bool false), []))) (some ((.bool false), []))) (some ((.bool false), []))
theorem P0 (d : Df) (L : Int) : exec X (cdp [] bd) .d (fr0 d L) RR (fun _ _ => none) RR = sh0 d L := by kernel_rfl
noncomputable def f0 (d : Df) (L : Int) : R := sh0 d L
theorem T0 (d : Df) (L : Int) : exec X bd .d (fr0 d L) RR (fun _ _ => none) RR = f0 d L := by
  refine (P0 d L).trans ?_
  show _ = sh0 d L
  rfl
theorem run (d : Df) (L : Int) : runFn X bd .d nmR [4] [] [(.agg [(.str d.c), (.int .i64 d.a), (.int .i64 d.l), (.int .i64 d.s)]), (.int .i64 L)] = f0 d L := T0 d L
theorem f0_eq (d : Df) (L : Int) (h : pos16 L = true) : f0 d L = some (.bool (rightB L d), []) := by
  have hL := pos16_iff.1 h
  unfold f0 sh0 rightB
  cases h1 : ilt 0 (pointsZ d.c); · rfl
  cases h2 : ile 0 d.a; · rfl
  cases h3 : ile d.a L; · rfl
  have e2 : 0 ≤ d.a := of_decide_eq_true h2
  have e3 : d.a ≤ L := of_decide_eq_true h3
  rw [wrapI (by omega) (by omega)]
  cases ile 0 d.l; · rfl
  cases ile d.l (L - d.a); · rfl
  cases ile 1 d.s; · rfl
  rfl
theorem ok : CtxOk Tryd.prog X := ctxOk tab (by
  intro p hp
  simp only [List.mem_cons, List.not_mem_nil, or_false] at hp
  rcases hp with rfl
  · exact rpoints.spOk)
theorem okM : MOk Tryd.prog X := fun g sp h => by cases h
theorem spec (d : Df) (L : Int) (h : (pos16 L) = true) : CallSpec Tryd.prog E 39 [(.agg [(.str d.c), (.int .i64 d.a), (.int .i64 d.l), (.int .i64 d.s)]), (.int .i64 L)] (.bool (rightB L d)) [] :=
  runFn_sound ok okM Tryd.call39 Tryd.func39 (by kernel_rfl) (by kernel_rfl) (by kernel_rfl) (by show 2 ≤ 44; decide) (by decide) (by rfl) ((run d L).trans (f0_eq d L h))
noncomputable def sp : Sp U El := fun args k => match args with
  | [.agg [.str d_c, .int .i64 d_a, .int .i64 d_l, .int .i64 d_s], .int .i64 L] => chk (pos16 L) (k (.bool (rightB L (⟨d_c, d_a, d_l, d_s⟩ : Df))) [])
  | _ => none
theorem spOk : SpOk Tryd.prog E 39 sp where
  det := fun vs => by
    unfold sp
    split
    · rename_i d_c d_a d_l d_s L
      cases hb : (pos16 L)
      · exact ⟨none, fun _ => rfl⟩
      · exact ⟨some (_, _), fun _ => rfl⟩
    · exact ⟨none, fun _ => rfl⟩
  ok := fun vs k r h => by
    unfold sp at h
    split at h
    · obtain ⟨h1, h2⟩ := chk_some h
      exact ⟨_, _, spec ⟨_, _, _, _⟩ _ h1, h2⟩
    · cases h
end rright
namespace rbefore
noncomputable def bd : Code := (Tryd.f40.body).getD .skip
noncomputable def X : Ctx U El := ⟨E, tds, zeros, eqs, specOf [], 100000, 40, fun _ => none⟩
noncomputable def nmR : Norm U := ⟨[], [4], [], [], [], []⟩
noncomputable def RR : Kont U El := fun st => normK nmR st (retFin [4] [])
noncomputable def fr0 (d : Df) (e : Df) : St U El := ⟨[(0, (.agg [(.str d.c), (.int .i64 d.a), (.int .i64 d.l), (.int .i64 d.s)])), (1, (.agg [(.str e.c), (.int .i64 e.a), (.int .i64 e.l), (.int .i64 e.s)]))], []⟩
noncomputable def sh0 (d : Df) (e : Df) : R :=
  condB (d.a != e.a) (some ((.bool (ilt d.a e.a)), [])) (condB (!(d.c == e.c)) (some ((.bool (slt d.c e.c)), [])) (condB (d.l != e.l) (some ((.bool (ilt d.l e.l)), [])) (some ((.bool (ilt d.s e.s)), []))))
theorem P0 (d : Df) (e : Df) : exec X (cdp [] bd) .d (fr0 d e) RR (fun _ _ => none) RR = sh0 d e := by kernel_rfl
noncomputable def f0 (d : Df) (e : Df) : R := sh0 d e
theorem T0 (d : Df) (e : Df) : exec X bd .d (fr0 d e) RR (fun _ _ => none) RR = f0 d e := by
  refine (P0 d e).trans ?_
  show _ = sh0 d e
  rfl
theorem run (d : Df) (e : Df) : runFn X bd .d nmR [4] [] [(.agg [(.str d.c), (.int .i64 d.a), (.int .i64 d.l), (.int .i64 d.s)]), (.agg [(.str e.c), (.int .i64 e.a), (.int .i64 e.l), (.int .i64 e.s)])] = f0 d e := T0 d e
theorem f0_eq (d e : Df) : f0 d e = some (.bool (beforeB d e), []) := by
  unfold f0 sh0 beforeB
  cases d.a != e.a <;> cases d.c == e.c <;> cases d.l != e.l <;> rfl
theorem ok : CtxOk Tryd.prog X := ctxOk tab (by
  intro p hp
  cases hp)
theorem okM : MOk Tryd.prog X := fun g sp h => by cases h
theorem spec (d : Df) (e : Df) : CallSpec Tryd.prog E 40 [(.agg [(.str d.c), (.int .i64 d.a), (.int .i64 d.l), (.int .i64 d.s)]), (.agg [(.str e.c), (.int .i64 e.a), (.int .i64 e.l), (.int .i64 e.s)])] (.bool (beforeB d e)) [] :=
  runFn_sound ok okM Tryd.call40 Tryd.func40 (by kernel_rfl) (by kernel_rfl) (by kernel_rfl) (by show 2 ≤ 40; decide) (by decide) (by rfl) ((run d e).trans (f0_eq d e))
noncomputable def sp : Sp U El := fun args k => match args with
  | [.agg [.str d_c, .int .i64 d_a, .int .i64 d_l, .int .i64 d_s], .agg [.str e_c, .int .i64 e_a, .int .i64 e_l, .int .i64 e_s]] => k (.bool (beforeB (⟨d_c, d_a, d_l, d_s⟩ : Df) (⟨e_c, e_a, e_l, e_s⟩ : Df))) []
  | _ => none
theorem spOk : SpOk Tryd.prog E 40 sp where
  det := fun vs => by
    unfold sp
    split
    · exact ⟨some (_, _), fun _ => rfl⟩
    · exact ⟨none, fun _ => rfl⟩
  ok := fun vs k r h => by
    unfold sp at h
    split at h
    · exact ⟨_, _, spec ⟨_, _, _, _⟩ ⟨_, _, _, _⟩, h⟩
    · cases h
end rbefore

theorem drop_lt {α : Type} {l : List α} {i : Nat} (h : i < l.length) : l.drop i = l[i] :: l.drop (i + 1) := List.drop_eq_getElem_cons h
theorem prev_lt {l : List Df} {i : Nat} (h : i < l.length) : prev l (i + 1) = some l[i] := List.getElem?_eq_getElem h

namespace valid
noncomputable def bd : Code := (Tryd.f21.body).getD .skip
noncomputable def X : Ctx U El := ⟨E, tds, zeros, eqs, specOf [(45, right.sp), (46, compare.sp)], 100000, 44, fun _ => none⟩
noncomputable def nmR : Norm U := ⟨[], [4], [], [], [], []⟩
noncomputable def RR : Kont U El := fun st => normK nmR st (retFin [4] [])
noncomputable def nm1 : Norm U := ⟨[], [0, 1], [], [], [], []⟩
noncomputable def nm2 : Norm U := ⟨[], [], [], [], [], []⟩
noncomputable def nm3 : Norm U := ⟨[], [0, 1, 18, 19, 20], [], [], [], []⟩
noncomputable def nm4 : Norm U := ⟨[], [0, 1, 18, 19, 20, 30, 31, 32, 41], [], [], [], []⟩
noncomputable def fr0 (l : List Df) (L : Int) : St U El := ⟨[(0, (.lst .df l)), (1, (.int .i64 L))], []⟩
noncomputable def fr1 (l0 : List Df) (length1 : Int) : St U El := ⟨[(0, (.lst .df l0)), (1, (.int .i64 length1))], []⟩
noncomputable def fr2 : St U El := ⟨[], []⟩
noncomputable def fr3 (l0 : List Df) (length1 : Int) (x18 : List Df) (x19 : Int) (x20 : Int) : St U El := ⟨[(0, (.lst .df l0)), (1, (.int .i64 length1)), (18, (.lst .df x18)), (19, (.int .i64 x19)), (20, (.int .i64 x20))], []⟩
noncomputable def fr4 (l0 : List Df) (length1 : Int) (x18 : List Df) (x19 : Int) (x20 : Int) (x30 : Int) (x31 : Bool) (x32 : Bool) (x41 : Bool) : St U El := ⟨[(0, (.lst .df l0)), (1, (.int .i64 length1)), (18, (.lst .df x18)), (19, (.int .i64 x19)), (20, (.int .i64 x20)), (30, (.int .i64 x30)), (31, (.bool x31)), (32, (.bool x32)), (41, (.bool x41))], []⟩
noncomputable def sh0 (l : List Df) (L : Int) (k1 : (List Df) → Int → R) : R :=
  condB (ilt L (1 : Int)) (some ((.bool false), [])) (condB (ilt (16777216 : Int) L) (some ((.bool false), [])) (condB (ilt (1000 : Int) (Int.ofNat (List.length l))) (some ((.bool false), [])) (k1 l L)))
noncomputable def sh1 (l0 : List Df) (length1 : Int) (k3 : (List Df) → Int → (List Df) → Int → Int → R) : R :=
  k3 l0 length1 l0 (Int.ofNat (List.length l0)) (0 : Int)
noncomputable def sh2 : R :=
  some ((.bool true), [])
noncomputable def sh3 (l0 : List Df) (length1 : Int) (x18 : List Df) (x19 : Int) (x20 : Int) (k2 : R) (k4 : (List Df) → Int → (List Df) → Int → Int → Int → Bool → Bool → Bool → R) : R :=
  condB (ilt x20 x19) (chk (inb x20 (List.length x18)) (chk (pos16 length1) (condB (!(rightB length1 (List.getD x18 (Int.toNat x20) d_df))) (some ((.bool false), [])) (condB (ilt (0 : Int) x20) (chk (inb (IntKind.wrap .i64 (x20 - (1 : Int))) (List.length l0)) (condB (ile (0 : Int) (compareZ (List.getD l0 (Int.toNat (IntKind.wrap .i64 (x20 - (1 : Int)))) d_df) (List.getD x18 (Int.toNat x20) d_df))) (some ((.bool false), [])) (k4 l0 length1 x18 x19 x20 x20 (ilt (0 : Int) x20) true (ile (0 : Int) (compareZ (List.getD l0 (Int.toNat (IntKind.wrap .i64 (x20 - (1 : Int)))) d_df) (List.getD x18 (Int.toNat x20) d_df)))))) (k4 l0 length1 x18 x19 x20 x20 (ilt (0 : Int) x20) false false))))) (k2)
noncomputable def sh4 (l0 : List Df) (length1 : Int) (x18 : List Df) (x19 : Int) (x20 : Int) (x30 : Int) (x31 : Bool) (x32 : Bool) (x41 : Bool) (k3 : (List Df) → Int → (List Df) → Int → Int → R) : R :=
  k3 l0 length1 x18 x19 (IntKind.wrap .i64 (x20 + (1 : Int)))
noncomputable def it3 (Kb2 : Kont U El) (n : Nat) : Kont U El := iter nm3 (fun st' K' => exec X (cdp [1, 1, 0, 1, 0, 0] bd) (.seq none .d (.seq none .d (.seq (some nm4) .d .d))) st' K' (Eblk 0 (cutK nm2 Kb2) (fun _ _ => none)) RR) n
noncomputable def ct1 : Kont U El := fun st => exec X (cdp [1, 1] bd) (.seq (some nm2) (.seq none .d (.block (.loop nm3 (.seq none .d (.seq none .d (.seq (some nm4) .d .d)))))) .d) st RR (fun _ _ => none) RR
noncomputable def ct2 : Kont U El := fun st => exec X (cdp [1, 1, 1] bd) .d st RR (fun _ _ => none) RR
noncomputable def ct4 (Kb2 : Kont U El) (Kb3 : Kont U El) : Kont U El := fun st => exec X (cdp [1, 1, 0, 1, 0, 0, 1, 1, 1] bd) .d st (cutK nm3 Kb3) (Eblk 0 (cutK nm2 Kb2) (fun _ _ => none)) RR
theorem P0 (l : List Df) (L : Int) : exec X (cdp [] bd) (.seq none .d (.seq (some nm1) .d (.seq (some nm2) (.seq none .d (.block (.loop nm3 (.seq none .d (.seq none .d (.seq (some nm4) .d .d)))))) .d))) (fr0 l L) RR (fun _ _ => none) RR = sh0 l L (fun y0 y1 => (hid ct1) (fr1 y0 y1)) := by kernel_rfl
theorem P1 (l0 : List Df) (length1 : Int) : exec X (cdp [1, 1] bd) (.seq (some nm2) (.seq none .d (.block (.loop nm3 (.seq none .d (.seq none .d (.seq (some nm4) .d .d)))))) .d) (fr1 l0 length1) RR (fun _ _ => none) RR = sh1 l0 length1 (fun y0 y1 y2 y3 y4 => (hid (it3 (hid ct2) 100000)) (fr3 y0 y1 y2 y3 y4)) := by kernel_rfl
theorem P2 : exec X (cdp [1, 1, 1] bd) .d (fr2) RR (fun _ _ => none) RR = sh2 := by kernel_rfl
theorem P3 (l0 : List Df) (length1 : Int) (x18 : List Df) (x19 : Int) (x20 : Int) (Kb2 : Kont U El) (Kb3 : Kont U El) : exec X (cdp [1, 1, 0, 1, 0, 0] bd) (.seq none .d (.seq none .d (.seq (some nm4) .d .d))) (fr3 l0 length1 x18 x19 x20) (cutK nm3 Kb3) (Eblk 0 (cutK nm2 Kb2) (fun _ _ => none)) RR = sh3 l0 length1 x18 x19 x20 (Kb2 (fr2)) (fun y0 y1 y2 y3 y4 y5 y6 y7 y8 => (hid (ct4 Kb2 Kb3)) (fr4 y0 y1 y2 y3 y4 y5 y6 y7 y8)) := by kernel_rfl
theorem P4 (l0 : List Df) (length1 : Int) (x18 : List Df) (x19 : Int) (x20 : Int) (x30 : Int) (x31 : Bool) (x32 : Bool) (x41 : Bool) (Kb2 : Kont U El) (Kb3 : Kont U El) : exec X (cdp [1, 1, 0, 1, 0, 0, 1, 1, 1] bd) .d (fr4 l0 length1 x18 x19 x20 x30 x31 x32 x41) (cutK nm3 Kb3) (Eblk 0 (cutK nm2 Kb2) (fun _ _ => none)) RR = sh4 l0 length1 x18 x19 x20 x30 x31 x32 x41 (fun y0 y1 y2 y3 y4 => Kb3 (fr3 y0 y1 y2 y3 y4)) := by kernel_rfl
noncomputable def f2 : R := sh2
noncomputable def f4 (k3 : (List Df) → Int → (List Df) → Int → Int → R) (l0 : List Df) (length1 : Int) (x18 : List Df) (x19 : Int) (x20 : Int) (x30 : Int) (x31 : Bool) (x32 : Bool) (x41 : Bool) : R := sh4 l0 length1 x18 x19 x20 x30 x31 x32 x41 k3
noncomputable def f3 : Nat → (List Df) → Int → (List Df) → Int → Int → R
  | 0 => fun _ _ _ _ _ => none
  | n + 1 => fun l0 length1 x18 x19 x20 => sh3 l0 length1 x18 x19 x20 f2 (f4 (f3 n))
noncomputable def f1 (l0 : List Df) (length1 : Int) : R := sh1 l0 length1 (f3 100000)
noncomputable def f0 (l : List Df) (L : Int) : R := sh0 l L f1
theorem T2 : (hid ct2) (fr2) = f2 := by
  refine (congrFun (hid_eq _) _).trans <| (P2).trans ?_
  show _ = sh2
  rfl
theorem T4 (KL3 : Kont U El) (k3 : (List Df) → Int → (List Df) → Int → Int → R) (h3 : ∀ l0 length1 x18 x19 x20, KL3 (fr3 l0 length1 x18 x19 x20) = k3 l0 length1 x18 x19 x20) (l0 : List Df) (length1 : Int) (x18 : List Df) (x19 : Int) (x20 : Int) (x30 : Int) (x31 : Bool) (x32 : Bool) (x41 : Bool) : (hid (ct4 (hid ct2) KL3)) (fr4 l0 length1 x18 x19 x20 x30 x31 x32 x41) = f4 k3 l0 length1 x18 x19 x20 x30 x31 x32 x41 := by
  refine (congrFun (hid_eq _) _).trans <| (P4 l0 length1 x18 x19 x20 x30 x31 x32 x41 (hid ct2) KL3).trans ?_
  show _ = sh4 l0 length1 x18 x19 x20 x30 x31 x32 x41 k3
  simp only [h3]
theorem T3 : ∀ (n : Nat), ∀ l0 length1 x18 x19 x20, it3 (hid ct2) n (fr3 l0 length1 x18 x19 x20) = f3 n l0 length1 x18 x19 x20 := by
  intro n
  induction n with
  | zero => intros; rfl
  | succ n ih =>
    intro l0 length1 x18 x19 x20
    refine (P3 l0 length1 x18 x19 x20 (hid ct2) (it3 (hid ct2) n)).trans ?_
    show _ = sh3 l0 length1 x18 x19 x20 f2 (f4 (f3 n))
    simp only [T2, T4 (it3 (hid ct2) n) (f3 n) ih]
theorem H3 (l0 : List Df) (length1 : Int) (x18 : List Df) (x19 : Int) (x20 : Int) : hid (it3 (hid ct2) 100000) (fr3 l0 length1 x18 x19 x20) = f3 100000 l0 length1 x18 x19 x20 := (congrFun (hid_eq _) _).trans (T3 100000 l0 length1 x18 x19 x20)
theorem T1 (l0 : List Df) (length1 : Int) : (hid ct1) (fr1 l0 length1) = f1 l0 length1 := by
  refine (congrFun (hid_eq _) _).trans <| (P1 l0 length1).trans ?_
  show _ = sh1 l0 length1 (f3 100000)
  simp only [H3]
theorem T0 (l : List Df) (L : Int) : exec X bd (.seq none .d (.seq (some nm1) .d (.seq (some nm2) (.seq none .d (.block (.loop nm3 (.seq none .d (.seq none .d (.seq (some nm4) .d .d)))))) .d))) (fr0 l L) RR (fun _ _ => none) RR = f0 l L := by
  refine (P0 l L).trans ?_
  show _ = sh0 l L f1
  simp only [T1]
theorem run (l : List Df) (L : Int) : runFn X bd (.seq none .d (.seq (some nm1) .d (.seq (some nm2) (.seq none .d (.block (.loop nm3 (.seq none .d (.seq none .d (.seq (some nm4) .d .d)))))) .d))) nmR [4] [] [(.lst .df l), (.int .i64 L)] = f0 l L := T0 l L
theorem loop (l : List Df) (L : Int) (hL : pos16 L = true) (hl : l.length ≤ 1000) : ∀ (n i : Nat), l.length < n + i → i ≤ l.length → f3 n l L l (Int.ofNat l.length) (i : Int) = some (.bool (chainB L (prev l i) (l.drop i)), []) := by
  intro n
  induction n with
  | zero => intro i h1 h2; omega
  | succ n ih =>
    intro i h1 h2
    unfold f3 sh3
    by_cases h : i < l.length
    · have ew : IntKind.wrap .i64 ((i : Int) + 1) = ((i + 1 : Nat) : Int) := by rw [wrapI (by omega) (by omega)]; omega
      have eg : List.getD l (Int.toNat (i : Int)) d_df = l[i] := getD_lt h _
      rw [iltT (by simp; omega), inbT h, eg, drop_lt h]
      simp only [chainB, f4, sh4, ew, hL]
      cases hr : rightB L l[i]
      · rfl
      · rcases i with _ | j
        · rw [iltF (by omega)]
          exact (ih 1 (by omega) (by omega)).trans (by rw [prev_lt h]; rfl)
        · have hj : j < l.length := by omega
          have e1 : IntKind.wrap .i64 (((j + 1 : Nat) : Int) - 1) = (j : Int) := by rw [wrapI (by omega) (by omega)]; omega
          have eg2 : List.getD l (Int.toNat (j : Int)) d_df = l[j] := getD_lt hj _
          rw [iltT (by omega), e1, inbT hj, eg2, before_compare, prev_lt hj, befO_some]
          cases hb : beforeB l[j] l[j + 1]
          · rfl
          · exact (ih (j + 1 + 1) (by omega) (by omega)).trans (by rw [prev_lt h]; rfl)
    · have : i = l.length := by omega
      subst this
      rw [iltF (by simp), List.drop_length]
      rfl
theorem f0_eq (l : List Df) (L : Int) : f0 l L = some (.bool (validB L l), []) := by
  unfold f0 sh0 validB
  by_cases h1 : L < 1
  · rw [iltT h1, show pos16 L = false by simp [pos16, ile]; omega]; rfl
  rw [iltF h1]
  by_cases h2 : 16777216 < L
  · rw [iltT h2, show pos16 L = false by simp [pos16, ile]; omega]; rfl
  have hp : pos16 L = true := pos16_iff.2 ⟨by omega, by omega⟩
  rw [iltF h2, hp]
  by_cases h3 : 1000 < l.length
  · rw [iltT (by simp; omega), show nle l.length 1000 = false from decide_eq_false (by omega)]; rfl
  rw [iltF (by simp; omega), nleT (by omega)]
  exact loop l L hp (by omega) 100000 0 (by omega) (by omega)
theorem ok : CtxOk Tryd.prog X := ctxOk tab (by
  intro p hp
  simp only [List.mem_cons, List.not_mem_nil, or_false] at hp
  rcases hp with rfl | rfl
  · exact right.spOk
  · exact compare.spOk)
theorem okM : MOk Tryd.prog X := fun g sp h => by cases h
theorem spec (l : List Df) (L : Int) : CallSpec Tryd.prog E 21 [(.lst .df l), (.int .i64 L)] (.bool (validB L l)) [] :=
  runFn_sound ok okM Tryd.call21 Tryd.func21 (by kernel_rfl) (by kernel_rfl) (by kernel_rfl) (by show 2 ≤ 44; decide) (by decide) (by rfl) ((run l L).trans (f0_eq l L))
noncomputable def sp : Sp U El := fun args k => match args with
  | [.lst .df l, .int .i64 L] => k (.bool (validB L l)) []
  | _ => none
theorem spOk : SpOk Tryd.prog E 21 sp where
  det := fun vs => by
    unfold sp
    split
    · exact ⟨some (_, _), fun _ => rfl⟩
    · exact ⟨none, fun _ => rfl⟩
  ok := fun vs k r h => by
    unfold sp at h
    split at h
    · exact ⟨_, _, spec _ _, h⟩
    · cases h
end valid
namespace rvalid
noncomputable def bd : Code := (Tryd.f14.body).getD .skip
noncomputable def X : Ctx U El := ⟨E, tds, zeros, eqs, specOf [(39, rright.sp), (40, rbefore.sp)], 100000, 47, fun _ => none⟩
noncomputable def nmR : Norm U := ⟨[], [4], [], [], [], []⟩
noncomputable def RR : Kont U El := fun st => normK nmR st (retFin [4] [])
noncomputable def nm1 : Norm U := ⟨[], [0, 1], [], [], [], []⟩
noncomputable def nm2 : Norm U := ⟨[], [], [], [], [], []⟩
noncomputable def nm3 : Norm U := ⟨[], [0, 1, 5], [], [], [], []⟩
noncomputable def nm4 : Norm U := ⟨[], [0, 1, 5, 31, 32, 33, 45], [], [], [], []⟩
noncomputable def fr0 (l : List Df) (L : Int) : St U El := ⟨[(0, (.lst .df l)), (1, (.int .i64 L))], []⟩
noncomputable def fr1 (l0 : List Df) (length1 : Int) : St U El := ⟨[(0, (.lst .df l0)), (1, (.int .i64 length1))], []⟩
noncomputable def fr2 : St U El := ⟨[], []⟩
noncomputable def fr3 (l0 : List Df) (length1 : Int) (i5 : Int) : St U El := ⟨[(0, (.lst .df l0)), (1, (.int .i64 length1)), (5, (.int .i64 i5))], []⟩
noncomputable def fr4 (l0 : List Df) (length1 : Int) (i5 : Int) (x31 : Int) (x32 : Bool) (x33 : Bool) (x45 : Bool) : St U El := ⟨[(0, (.lst .df l0)), (1, (.int .i64 length1)), (5, (.int .i64 i5)), (31, (.int .i64 x31)), (32, (.bool x32)), (33, (.bool x33)), (45, (.bool x45))], []⟩
noncomputable def sh0 (l : List Df) (L : Int) (k1 : (List Df) → Int → R) : R :=
  condB (ilt L (1 : Int)) (some ((.bool false), [])) (condB (ilt (16777216 : Int) L) (some ((.bool false), [])) (condB (ilt (1000 : Int) (Int.ofNat (List.length l))) (some ((.bool false), [])) (k1 l L)))
noncomputable def sh1 (l0 : List Df) (length1 : Int) (k3 : (List Df) → Int → Int → R) : R :=
  k3 l0 length1 (0 : Int)
noncomputable def sh2 : R :=
  some ((.bool true), [])
noncomputable def sh3 (l0 : List Df) (length1 : Int) (i5 : Int) (k2 : R) (k4 : (List Df) → Int → Int → Int → Bool → Bool → Bool → R) : R :=
  condB (ilt i5 (Int.ofNat (List.length l0))) (chk (inb i5 (List.length l0)) (chk (pos16 length1) (condB (!(rightB length1 (List.getD l0 (Int.toNat i5) d_df))) (some ((.bool false), [])) (condB (ilt (0 : Int) i5) (chk (inb (IntKind.wrap .i64 (i5 - (1 : Int))) (List.length l0)) (chk (inb i5 (List.length l0)) (condB (!(beforeB (List.getD l0 (Int.toNat (IntKind.wrap .i64 (i5 - (1 : Int)))) d_df) (List.getD l0 (Int.toNat i5) d_df))) (some ((.bool false), [])) (k4 l0 length1 i5 i5 (ilt (0 : Int) i5) true (!(beforeB (List.getD l0 (Int.toNat (IntKind.wrap .i64 (i5 - (1 : Int)))) d_df) (List.getD l0 (Int.toNat i5) d_df))))))) (k4 l0 length1 i5 i5 (ilt (0 : Int) i5) false false))))) (k2)
noncomputable def sh4 (l0 : List Df) (length1 : Int) (i5 : Int) (x31 : Int) (x32 : Bool) (x33 : Bool) (x45 : Bool) (k3 : (List Df) → Int → Int → R) : R :=
  k3 l0 length1 (IntKind.wrap .i64 (i5 + (1 : Int)))
noncomputable def it3 (Kb2 : Kont U El) (n : Nat) : Kont U El := iter nm3 (fun st' K' => exec X (cdp [1, 1, 0, 1, 0, 0] bd) (.seq none .d (.seq (some nm4) .d .d)) st' K' (Eblk 0 (cutK nm2 Kb2) (fun _ _ => none)) RR) n
noncomputable def ct1 : Kont U El := fun st => exec X (cdp [1, 1] bd) (.seq (some nm2) (.seq none .d (.block (.loop nm3 (.seq none .d (.seq (some nm4) .d .d))))) .d) st RR (fun _ _ => none) RR
noncomputable def ct2 : Kont U El := fun st => exec X (cdp [1, 1, 1] bd) .d st RR (fun _ _ => none) RR
noncomputable def ct4 (Kb2 : Kont U El) (Kb3 : Kont U El) : Kont U El := fun st => exec X (cdp [1, 1, 0, 1, 0, 0, 1, 1] bd) .d st (cutK nm3 Kb3) (Eblk 0 (cutK nm2 Kb2) (fun _ _ => none)) RR
theorem P0 (l : List Df) (L : Int) : exec X (cdp [] bd) (.seq none .d (.seq (some nm1) .d (.seq (some nm2) (.seq none .d (.block (.loop nm3 (.seq none .d (.seq (some nm4) .d .d))))) .d))) (fr0 l L) RR (fun _ _ => none) RR = sh0 l L (fun y0 y1 => (hid ct1) (fr1 y0 y1)) := by kernel_rfl
theorem P1 (l0 : List Df) (length1 : Int) : exec X (cdp [1, 1] bd) (.seq (some nm2) (.seq none .d (.block (.loop nm3 (.seq none .d (.seq (some nm4) .d .d))))) .d) (fr1 l0 length1) RR (fun _ _ => none) RR = sh1 l0 length1 (fun y0 y1 y2 => (hid (it3 (hid ct2) 100000)) (fr3 y0 y1 y2)) := by kernel_rfl
theorem P2 : exec X (cdp [1, 1, 1] bd) .d (fr2) RR (fun _ _ => none) RR = sh2 := by kernel_rfl
theorem P3 (l0 : List Df) (length1 : Int) (i5 : Int) (Kb2 : Kont U El) (Kb3 : Kont U El) : exec X (cdp [1, 1, 0, 1, 0, 0] bd) (.seq none .d (.seq (some nm4) .d .d)) (fr3 l0 length1 i5) (cutK nm3 Kb3) (Eblk 0 (cutK nm2 Kb2) (fun _ _ => none)) RR = sh3 l0 length1 i5 (Kb2 (fr2)) (fun y0 y1 y2 y3 y4 y5 y6 => (hid (ct4 Kb2 Kb3)) (fr4 y0 y1 y2 y3 y4 y5 y6)) := by kernel_rfl
theorem P4 (l0 : List Df) (length1 : Int) (i5 : Int) (x31 : Int) (x32 : Bool) (x33 : Bool) (x45 : Bool) (Kb2 : Kont U El) (Kb3 : Kont U El) : exec X (cdp [1, 1, 0, 1, 0, 0, 1, 1] bd) .d (fr4 l0 length1 i5 x31 x32 x33 x45) (cutK nm3 Kb3) (Eblk 0 (cutK nm2 Kb2) (fun _ _ => none)) RR = sh4 l0 length1 i5 x31 x32 x33 x45 (fun y0 y1 y2 => Kb3 (fr3 y0 y1 y2)) := by kernel_rfl
noncomputable def f2 : R := sh2
noncomputable def f4 (k3 : (List Df) → Int → Int → R) (l0 : List Df) (length1 : Int) (i5 : Int) (x31 : Int) (x32 : Bool) (x33 : Bool) (x45 : Bool) : R := sh4 l0 length1 i5 x31 x32 x33 x45 k3
noncomputable def f3 : Nat → (List Df) → Int → Int → R
  | 0 => fun _ _ _ => none
  | n + 1 => fun l0 length1 i5 => sh3 l0 length1 i5 f2 (f4 (f3 n))
noncomputable def f1 (l0 : List Df) (length1 : Int) : R := sh1 l0 length1 (f3 100000)
noncomputable def f0 (l : List Df) (L : Int) : R := sh0 l L f1
theorem T2 : (hid ct2) (fr2) = f2 := by
  refine (congrFun (hid_eq _) _).trans <| (P2).trans ?_
  show _ = sh2
  rfl
theorem T4 (KL3 : Kont U El) (k3 : (List Df) → Int → Int → R) (h3 : ∀ l0 length1 i5, KL3 (fr3 l0 length1 i5) = k3 l0 length1 i5) (l0 : List Df) (length1 : Int) (i5 : Int) (x31 : Int) (x32 : Bool) (x33 : Bool) (x45 : Bool) : (hid (ct4 (hid ct2) KL3)) (fr4 l0 length1 i5 x31 x32 x33 x45) = f4 k3 l0 length1 i5 x31 x32 x33 x45 := by
  refine (congrFun (hid_eq _) _).trans <| (P4 l0 length1 i5 x31 x32 x33 x45 (hid ct2) KL3).trans ?_
  show _ = sh4 l0 length1 i5 x31 x32 x33 x45 k3
  simp only [h3]
theorem T3 : ∀ (n : Nat), ∀ l0 length1 i5, it3 (hid ct2) n (fr3 l0 length1 i5) = f3 n l0 length1 i5 := by
  intro n
  induction n with
  | zero => intros; rfl
  | succ n ih =>
    intro l0 length1 i5
    refine (P3 l0 length1 i5 (hid ct2) (it3 (hid ct2) n)).trans ?_
    show _ = sh3 l0 length1 i5 f2 (f4 (f3 n))
    simp only [T2, T4 (it3 (hid ct2) n) (f3 n) ih]
theorem H3 (l0 : List Df) (length1 : Int) (i5 : Int) : hid (it3 (hid ct2) 100000) (fr3 l0 length1 i5) = f3 100000 l0 length1 i5 := (congrFun (hid_eq _) _).trans (T3 100000 l0 length1 i5)
theorem T1 (l0 : List Df) (length1 : Int) : (hid ct1) (fr1 l0 length1) = f1 l0 length1 := by
  refine (congrFun (hid_eq _) _).trans <| (P1 l0 length1).trans ?_
  show _ = sh1 l0 length1 (f3 100000)
  simp only [H3]
theorem T0 (l : List Df) (L : Int) : exec X bd (.seq none .d (.seq (some nm1) .d (.seq (some nm2) (.seq none .d (.block (.loop nm3 (.seq none .d (.seq (some nm4) .d .d))))) .d))) (fr0 l L) RR (fun _ _ => none) RR = f0 l L := by
  refine (P0 l L).trans ?_
  show _ = sh0 l L f1
  simp only [T1]
theorem run (l : List Df) (L : Int) : runFn X bd (.seq none .d (.seq (some nm1) .d (.seq (some nm2) (.seq none .d (.block (.loop nm3 (.seq none .d (.seq (some nm4) .d .d))))) .d))) nmR [4] [] [(.lst .df l), (.int .i64 L)] = f0 l L := T0 l L
theorem loop (l : List Df) (L : Int) (hL : pos16 L = true) (hl : l.length ≤ 1000) : ∀ (n i : Nat), l.length < n + i → i ≤ l.length → f3 n l L (i : Int) = some (.bool (chainB L (prev l i) (l.drop i)), []) := by
  intro n
  induction n with
  | zero => intro i h1 h2; omega
  | succ n ih =>
    intro i h1 h2
    unfold f3 sh3
    by_cases h : i < l.length
    · have ew : IntKind.wrap .i64 ((i : Int) + 1) = ((i + 1 : Nat) : Int) := by rw [wrapI (by omega) (by omega)]; omega
      have eg : List.getD l (Int.toNat (i : Int)) d_df = l[i] := getD_lt h _
      rw [iltT (by simp; omega), inbT h, eg, drop_lt h]
      simp only [chainB, f4, sh4, ew, hL]
      cases hr : rightB L l[i]
      · rfl
      · rcases i with _ | j
        · rw [iltF (by omega)]
          exact (ih 1 (by omega) (by omega)).trans (by rw [prev_lt h]; rfl)
        · have hj : j < l.length := by omega
          have e1 : IntKind.wrap .i64 (((j + 1 : Nat) : Int) - 1) = (j : Int) := by rw [wrapI (by omega) (by omega)]; omega
          have eg2 : List.getD l (Int.toNat (j : Int)) d_df = l[j] := getD_lt hj _
          rw [iltT (by omega), e1, inbT hj, eg2, prev_lt hj, befO_some]
          cases hb : beforeB l[j] l[j + 1]
          · rfl
          · exact (ih (j + 1 + 1) (by omega) (by omega)).trans (by rw [prev_lt h]; rfl)
    · have : i = l.length := by omega
      subst this
      rw [iltF (by simp), List.drop_length]
      rfl
theorem f0_eq (l : List Df) (L : Int) : f0 l L = some (.bool (validB L l), []) := by
  unfold f0 sh0 validB
  by_cases h1 : L < 1
  · rw [iltT h1, show pos16 L = false by simp [pos16, ile]; omega]; rfl
  rw [iltF h1]
  by_cases h2 : 16777216 < L
  · rw [iltT h2, show pos16 L = false by simp [pos16, ile]; omega]; rfl
  have hp : pos16 L = true := pos16_iff.2 ⟨by omega, by omega⟩
  rw [iltF h2, hp]
  by_cases h3 : 1000 < l.length
  · rw [iltT (by simp; omega), show nle l.length 1000 = false from decide_eq_false (by omega)]; rfl
  rw [iltF (by simp; omega), nleT (by omega)]
  exact loop l L hp (by omega) 100000 0 (by omega) (by omega)
theorem ok : CtxOk Tryd.prog X := ctxOk tab (by
  intro p hp
  simp only [List.mem_cons, List.not_mem_nil, or_false] at hp
  rcases hp with rfl | rfl
  · exact rright.spOk
  · exact rbefore.spOk)
theorem okM : MOk Tryd.prog X := fun g sp h => by cases h
theorem spec (l : List Df) (L : Int) : CallSpec Tryd.prog E 14 [(.lst .df l), (.int .i64 L)] (.bool (validB L l)) [] :=
  runFn_sound ok okM Tryd.call14 Tryd.func14 (by kernel_rfl) (by kernel_rfl) (by kernel_rfl) (by show 2 ≤ 47; decide) (by decide) (by rfl) ((run l L).trans (f0_eq l L))
noncomputable def sp : Sp U El := fun args k => match args with
  | [.lst .df l, .int .i64 L] => k (.bool (validB L l)) []
  | _ => none
theorem spOk : SpOk Tryd.prog E 14 sp where
  det := fun vs => by
    unfold sp
    split
    · exact ⟨some (_, _), fun _ => rfl⟩
    · exact ⟨none, fun _ => rfl⟩
  ok := fun vs k r h => by
    unfold sp at h
    split at h
    · exact ⟨_, _, spec _ _, h⟩
    · cases h
end rvalid
end Go.Proofs.YtnhmhcobpbilhaaDoor
