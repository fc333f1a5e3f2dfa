/- Merge, Turned, the document's Put, Merge and Turned, equality of lists of defects: by the lift. -/
import Derived.Test.YtnhmhcobpbilhaaDoorCO
import Derived.Test.YtnhmhcobpbilhaaDoorVT
namespace Go.Proofs.YtnhmhcobpbilhaaDoor
set_option linter.unusedSectionVars false
set_option linter.unusedSimpArgs false
set_option linter.unusedVariables false
set_option maxRecDepth 100000

/-! ### equality -/
noncomputable def eqLD : List Df → List Df → Bool
  | [], [] => true
  | x :: a, y :: b => eqDf x y && eqLD a b
  | _, _ => false
noncomputable def eqD (a b : List Df) : Bool := bif (Int.ofNat a.length) != (Int.ofNat b.length) then false else eqLD a b
theorem eqLD_same : ∀ a, eqLD a a = true := by
  intro a
  induction a with
  | nil => rfl
  | cons x a ih => simp only [eqLD, ih, eqDf_iff.2 rfl, Bool.and_self]
theorem eqD_same (a : List Df) : eqD a a = true := by
  unfold eqD
  rw [bne_self_eq_false]
  exact eqLD_same a
namespace equalD
noncomputable def bd : Code := (Tryd.f28.body).getD .skip
noncomputable def X : Ctx U El := ⟨E, tds, zeros, eqs, specOf [], 100000, 26, fun _ => none⟩
noncomputable def nmR : Norm U := ⟨[], [4], [], [], [], []⟩
noncomputable def RR : Kont U El := fun st => normK nmR st (retFin [4] [])
noncomputable def nm1 : Norm U := ⟨[], [], [], [], [], []⟩
noncomputable def nm2 : Norm U := ⟨[], [0, 1, 12, 13], [], [], [], []⟩
noncomputable def fr0 (a : List Df) (b : List Df) : St U El := ⟨[(0, (.lst .df a)), (1, (.lst .df b))], []⟩
noncomputable def fr1 : St U El := ⟨[], []⟩
noncomputable def fr2 (s10 : List Df) (s21 : List Df) (x12 : Int) (x13 : Int) : St U El := ⟨[(0, (.lst .df s10)), (1, (.lst .df s21)), (12, (.int .i64 x12)), (13, (.int .i64 x13))], []⟩
noncomputable def sh0 (a : List Df) (b : List Df) (k2 : (List Df) → (List Df) → Int → Int → R) : R :=
  condB ((Int.ofNat (List.length a)) != (Int.ofNat (List.length b))) (some ((.bool false), [])) (k2 a b (Int.ofNat (List.length a)) (0 : Int))
noncomputable def sh1 : R :=
  some ((.bool true), [])
noncomputable def sh2 (s10 : List Df) (s21 : List Df) (x12 : Int) (x13 : Int) (k1 : R) (k2 : (List Df) → (List Df) → Int → Int → R) : R :=
  condB (ilt x13 x12) (chk (inb x13 (List.length s10)) (chk (inb x13 (List.length s21)) (condB (!(((List.getD s10 (Int.toNat x13) d_df).c == (List.getD s21 (Int.toNat x13) d_df).c) && (((List.getD s10 (Int.toNat x13) d_df).a == (List.getD s21 (Int.toNat x13) d_df).a) && (((List.getD s10 (Int.toNat x13) d_df).l == (List.getD s21 (Int.toNat x13) d_df).l) && (((List.getD s10 (Int.toNat x13) d_df).s == (List.getD s21 (Int.toNat x13) d_df).s) && true))))) (some ((.bool false), [])) (k2 s10 s21 x12 (IntKind.wrap .i64 (x13 + (1 : Int))))))) (k1)
noncomputable def it2 (Kb1 : Kont U El) (n : Nat) : Kont U El := iter nm2 (fun st' K' => exec X (cdp [1, 1, 0, 1, 0, 0] bd) .d st' K' (Eblk 0 (cutK nm1 Kb1) (fun _ _ => none)) RR) n
noncomputable def ct1 : Kont U El := fun st => exec X (cdp [1, 1, 1] bd) .d st RR (fun _ _ => none) RR
theorem P0 (a : List Df) (b : List Df) : exec X (cdp [] bd) (.seq none .d (.seq none .d (.seq (some nm1) (.seq none .d (.block (.loop nm2 .d))) .d))) (fr0 a b) RR (fun _ _ => none) RR = sh0 a b (fun y0 y1 y2 y3 => (hid (it2 (hid ct1) 100000)) (fr2 y0 y1 y2 y3)) := by kernel_rfl
theorem P1 : exec X (cdp [1, 1, 1] bd) .d (fr1) RR (fun _ _ => none) RR = sh1 := by kernel_rfl
theorem P2 (s10 : List Df) (s21 : List Df) (x12 : Int) (x13 : Int) (Kb1 : Kont U El) (Kb2 : Kont U El) : exec X (cdp [1, 1, 0, 1, 0, 0] bd) .d (fr2 s10 s21 x12 x13) (cutK nm2 Kb2) (Eblk 0 (cutK nm1 Kb1) (fun _ _ => none)) RR = sh2 s10 s21 x12 x13 (Kb1 (fr1)) (fun y0 y1 y2 y3 => Kb2 (fr2 y0 y1 y2 y3)) := by kernel_rfl
noncomputable def f1 : R := sh1
noncomputable def f2 : Nat → (List Df) → (List Df) → Int → Int → R
  | 0 => fun _ _ _ _ => none
  | n + 1 => fun s10 s21 x12 x13 => sh2 s10 s21 x12 x13 f1 (f2 n)
noncomputable def f0 (a : List Df) (b : List Df) : R := sh0 a b (f2 100000)
theorem T1 : (hid ct1) (fr1) = f1 := by
  refine (congrFun (hid_eq _) _).trans <| (P1).trans ?_
  show _ = sh1
  rfl
theorem T2 : ∀ (n : Nat), ∀ s10 s21 x12 x13, it2 (hid ct1) n (fr2 s10 s21 x12 x13) = f2 n s10 s21 x12 x13 := by
  intro n
  induction n with
  | zero => intros; rfl
  | succ n ih =>
    intro s10 s21 x12 x13
    refine (P2 s10 s21 x12 x13 (hid ct1) (it2 (hid ct1) n)).trans ?_
    show _ = sh2 s10 s21 x12 x13 f1 (f2 n)
    simp only [T1, ih]
theorem H2 (s10 : List Df) (s21 : List Df) (x12 : Int) (x13 : Int) : hid (it2 (hid ct1) 100000) (fr2 s10 s21 x12 x13) = f2 100000 s10 s21 x12 x13 := (congrFun (hid_eq _) _).trans (T2 100000 s10 s21 x12 x13)
theorem T0 (a : List Df) (b : List Df) : exec X bd (.seq none .d (.seq none .d (.seq (some nm1) (.seq none .d (.block (.loop nm2 .d))) .d))) (fr0 a b) RR (fun _ _ => none) RR = f0 a b := by
  refine (P0 a b).trans ?_
  show _ = sh0 a b (f2 100000)
  simp only [H2]
theorem run (a : List Df) (b : List Df) : runFn X bd (.seq none .d (.seq none .d (.seq (some nm1) (.seq none .d (.block (.loop nm2 .d))) .d))) nmR [4] [] [(.lst .df a), (.lst .df b)] = f0 a b := T0 a b
theorem loop (a b : List Df) (hl : a.length ≤ 4000) (he : a.length = b.length) : ∀ (n i : Nat), a.length < n + i → i ≤ a.length → f2 n a b (Int.ofNat a.length) (i : Int) = some (.bool (eqLD (a.drop i) (b.drop i)), []) := by
  intro n
  induction n with
  | zero => intro i h1 h2; omega
  | succ n ih =>
    intro i h1 h2
    show sh2 a b (Int.ofNat a.length) i f1 (f2 n) = _
    unfold sh2
    by_cases hi : i < a.length
    · have hi' : i < b.length := by omega
      rw [iltT (by simp; omega), inbT hi, inbT hi', toNat_nat, getD_lt hi, getD_lt hi', drop_lt hi, drop_lt hi', wrapS i (by omega)]
      simp only [eqLD]
      show condB (!(eqDf a[i] b[i])) _ _ = _
      cases eqDf a[i] b[i]
      · rfl
      · exact ih (i + 1) (by omega) hi
    · have : i = a.length := by omega
      subst this
      rw [iltF (by simp), List.drop_length, he, List.drop_length]
      rfl
theorem f0_eq (a b : List Df) (h : nle (List.length a) 4000 = true) : f0 a b = some (.bool (eqD a b), []) := by
  have hl : a.length ≤ 4000 := of_decide_eq_true h
  unfold f0 sh0 eqD
  cases hb : (Int.ofNat a.length) != (Int.ofNat b.length)
  · have he : a.length = b.length := by
      have : (Int.ofNat a.length) = (Int.ofNat b.length) := by simpa using hb
      exact Int.ofNat.inj this
    exact loop a b hl he 100000 0 (by omega) (by omega)
  · rfl
theorem ok : CtxOk Tryd.prog X := ctxOk tab (by
  intro p hp
  cases hp)
theorem okM : MOk Tryd.prog X := fun g sp h => by cases h
theorem spec (a : List Df) (b : List Df) (h : (nle (List.length a) 4000) = true) : CallSpec Tryd.prog E 28 [(.lst .df a), (.lst .df b)] (.bool (eqD a b)) [] :=
  runFn_sound ok okM Tryd.call28 Tryd.func28 (by kernel_rfl) (by kernel_rfl) (by kernel_rfl) (by show 2 ≤ 26; decide) (by decide) (by rfl) ((run a b).trans (f0_eq a b h))
noncomputable def sp : Sp U El := fun args k => match args with
  | [.lst .df a, .lst .df b] => chk (nle (List.length a) 4000) (k (.bool (eqD a b)) [])
  | _ => none
theorem spOk : SpOk Tryd.prog E 28 sp where
  det := fun vs => by
    unfold sp
    split
    · rename_i a b
      cases hb : (nle (List.length a) 4000)
      · exact ⟨none, fun _ => rfl⟩
      · exact ⟨some (_, _), fun _ => rfl⟩
    · exact ⟨none, fun _ => rfl⟩
  ok := fun vs k r h => by
    unfold sp at h
    split at h
    · obtain ⟨h1, h2⟩ := chk_some h
      exact ⟨_, _, spec _ _ h1, h2⟩
    · cases h
end equalD

/-! ### Concat -/
noncomputable def lenZ : List (List Df) → Int
  | [] => 0
  | x :: l => Int.ofNat x.length + lenZ l
theorem lenZ_flat : ∀ l : List (List Df), lenZ l = ((List.flatten l).length : Int) := by
  intro l
  induction l with
  | nil => rfl
  | cons x l ih => simp only [lenZ, ih, List.flatten_cons, List.length_append]; simp
namespace concatF
noncomputable def bd : Code := (Tryd.f48.body).getD .skip
noncomputable def X : Ctx U El := ⟨E, tds, zeros, eqs, specOf [], 100000, 36, mspecOf [(61, growSp)]⟩
noncomputable def nmR : Norm U := ⟨[(2, .df)], [2], [2], [], [], []⟩
noncomputable def RR : Kont U El := fun st => normK nmR st (retFin [2] [2])
noncomputable def nm1 : Norm U := ⟨[], [0, 3], [], [], [], []⟩
noncomputable def nm2 : Norm U := ⟨[], [0, 3, 9, 10, 11], [], [], [], []⟩
noncomputable def nm3 : Norm U := ⟨[], [0, 3, 9, 10, 11], [], [], [], []⟩
noncomputable def nm4 : Norm U := ⟨[(6, .df)], [6], [6], [], [], []⟩
noncomputable def nm5 : Norm U := ⟨[(6, .df)], [6, 25, 26, 27], [6], [], [], []⟩
noncomputable def fr0 (ls : List (List Df)) : St U El := ⟨[(0, (.lst .ldf ls))], []⟩
noncomputable def fr1 (slices0 : List (List Df)) (size3 : Int) : St U El := ⟨[(0, (.lst .ldf slices0)), (3, (.int .i64 size3))], []⟩
noncomputable def fr2 (slices0 : List (List Df)) (size3 : Int) (x9 : List (List Df)) (x10 : Int) (x11 : Int) : St U El := ⟨[(0, (.lst .ldf slices0)), (3, (.int .i64 size3)), (9, (.lst .ldf x9)), (10, (.int .i64 x10)), (11, (.int .i64 x11))], []⟩
noncomputable def fr3 (slices0 : List (List Df)) (size3 : Int) (x9 : List (List Df)) (x10 : Int) (x11 : Int) : St U El := ⟨[(0, (.lst .ldf slices0)), (3, (.int .i64 size3)), (9, (.lst .ldf x9)), (10, (.int .i64 x10)), (11, (.int .i64 x11))], []⟩
noncomputable def fr4 (newslice6 : List Df) : St U El := ⟨[(6, (.ful 6))], [(6, (.rows .df newslice6))]⟩
noncomputable def fr5 (newslice6 : List Df) (x25 : List (List Df)) (x26 : Int) (x27 : Int) : St U El := ⟨[(6, (.ful 6)), (25, (.lst .ldf x25)), (26, (.int .i64 x26)), (27, (.int .i64 x27))], [(6, (.rows .df newslice6))]⟩
noncomputable def sh0 (ls : List (List Df)) (k2 : (List (List Df)) → Int → (List (List Df)) → Int → Int → R) : R :=
  k2 ls (0 : Int) ls (Int.ofNat (List.length ls)) (0 : Int)
noncomputable def sh1 (slices0 : List (List Df)) (size3 : Int) (k5 : (List Df) → (List (List Df)) → Int → Int → R) : R :=
  chk (ile 0 size3 && ile size3 4000) (k5 ([] : List Df) slices0 (Int.ofNat (List.length slices0)) (0 : Int))
noncomputable def sh2 (slices0 : List (List Df)) (size3 : Int) (x9 : List (List Df)) (x10 : Int) (x11 : Int) (k1 : (List (List Df)) → Int → R) (k3 : (List (List Df)) → Int → (List (List Df)) → Int → Int → R) : R :=
  condB (ilt x11 x10) (chk (inb x11 (List.length x9)) (condB (ilt (IntKind.wrap .i64 (size3 + (Int.ofNat (List.length (List.getD x9 (Int.toNat x11) d_ldf))))) (0 : Int)) (none) (k3 slices0 (IntKind.wrap .i64 (size3 + (Int.ofNat (List.length (List.getD x9 (Int.toNat x11) d_ldf))))) x9 x10 x11))) (k1 slices0 size3)
noncomputable def sh3 (slices0 : List (List Df)) (size3 : Int) (x9 : List (List Df)) (x10 : Int) (x11 : Int) (k2 : (List (List Df)) → Int → (List (List Df)) → Int → Int → R) : R :=
  k2 slices0 size3 x9 x10 (IntKind.wrap .i64 (x11 + (1 : Int)))
noncomputable def sh4 (newslice6 : List Df) : R :=
  some ((.ful 0), [(0, .rows .df newslice6)])
noncomputable def sh5 (newslice6 : List Df) (x25 : List (List Df)) (x26 : Int) (x27 : Int) (k4 : (List Df) → R) (k5 : (List Df) → (List (List Df)) → Int → Int → R) : R :=
  condB (ilt x27 x26) (chk (inb x27 (List.length x25)) (chk (nle ((List.length newslice6 + List.length (List.getD x25 (Int.toNat x27) d_ldf)) * 40) 140737488355328 && nle (List.length newslice6 + List.length (List.getD x25 (Int.toNat x27) d_ldf)) 9223372036854775807) (k5 (newslice6 ++ (List.getD x25 (Int.toNat x27) d_ldf)) x25 x26 (IntKind.wrap .i64 (x27 + (1 : Int)))))) (k4 newslice6)
noncomputable def it2 (Kb1 : Kont U El) (n : Nat) : Kont U El := iter nm2 (fun st' K' => exec X (cdp [1, 1, 0, 1, 0, 0] bd) (.seq none .d (.seq none .d (.seq (some nm3) .d .d))) st' K' (Eblk 0 (cutK nm1 Kb1) (fun _ _ => none)) RR) n
noncomputable def it5 (Kb4 : Kont U El) (n : Nat) : Kont U El := iter nm5 (fun st' K' => exec X (cdp [1, 1, 1, 1, 0, 1, 0, 0] bd) .d st' K' (Eblk 2 (cutK nm4 Kb4) (fun _ _ => none)) RR) n
noncomputable def ct1 : Kont U El := fun st => exec X (cdp [1, 1, 1] bd) (.seq none .d (.seq (some nm4) (.seq none .d (.block (.loop nm5 .d))) .d)) st RR (fun _ _ => none) RR
noncomputable def ct3 (Kb1 : Kont U El) (Kb2 : Kont U El) : Kont U El := fun st => exec X (cdp [1, 1, 0, 1, 0, 0, 1, 1, 1] bd) .d st (cutK nm2 Kb2) (Eblk 0 (cutK nm1 Kb1) (fun _ _ => none)) RR
noncomputable def ct4 : Kont U El := fun st => exec X (cdp [1, 1, 1, 1, 1] bd) .d st RR (fun _ _ => none) RR
theorem P0 (ls : List (List Df)) : exec X (cdp [] bd) (.seq none .d (.seq none .d (.seq (some nm1) (.seq none .d (.block (.loop nm2 (.seq none .d (.seq none .d (.seq (some nm3) .d .d)))))) (.seq none .d (.seq (some nm4) (.seq none .d (.block (.loop nm5 .d))) .d))))) (fr0 ls) RR (fun _ _ => none) RR = sh0 ls (fun y0 y1 y2 y3 y4 => (hid (it2 (hid ct1) 100000)) (fr2 y0 y1 y2 y3 y4)) := by kernel_rfl
theorem P1 (slices0 : List (List Df)) (size3 : Int) : exec X (cdp [1, 1, 1] bd) (.seq none .d (.seq (some nm4) (.seq none .d (.block (.loop nm5 .d))) .d)) (fr1 slices0 size3) RR (fun _ _ => none) RR = sh1 slices0 size3 (fun y0 y1 y2 y3 => (hid (it5 (hid ct4) 100000)) (fr5 y0 y1 y2 y3)) := by kernel_rfl
theorem P2 (slices0 : List (List Df)) (size3 : Int) (x9 : List (List Df)) (x10 : Int) (x11 : Int) (Kb1 : Kont U El) (Kb2 : Kont U El) : exec X (cdp [1, 1, 0, 1, 0, 0] bd) (.seq none .d (.seq none .d (.seq (some nm3) .d .d))) (fr2 slices0 size3 x9 x10 x11) (cutK nm2 Kb2) (Eblk 0 (cutK nm1 Kb1) (fun _ _ => none)) RR = sh2 slices0 size3 x9 x10 x11 (fun y0 y1 => Kb1 (fr1 y0 y1)) (fun y0 y1 y2 y3 y4 => (hid (ct3 Kb1 Kb2)) (fr3 y0 y1 y2 y3 y4)) := by kernel_rfl
theorem P3 (slices0 : List (List Df)) (size3 : Int) (x9 : List (List Df)) (x10 : Int) (x11 : Int) (Kb1 : Kont U El) (Kb2 : Kont U El) : exec X (cdp [1, 1, 0, 1, 0, 0, 1, 1, 1] bd) .d (fr3 slices0 size3 x9 x10 x11) (cutK nm2 Kb2) (Eblk 0 (cutK nm1 Kb1) (fun _ _ => none)) RR = sh3 slices0 size3 x9 x10 x11 (fun y0 y1 y2 y3 y4 => Kb2 (fr2 y0 y1 y2 y3 y4)) := by kernel_rfl
theorem P4 (newslice6 : List Df) : exec X (cdp [1, 1, 1, 1, 1] bd) .d (fr4 newslice6) RR (fun _ _ => none) RR = sh4 newslice6 := by kernel_rfl
theorem P5 (newslice6 : List Df) (x25 : List (List Df)) (x26 : Int) (x27 : Int) (Kb4 : Kont U El) (Kb5 : Kont U El) : exec X (cdp [1, 1, 1, 1, 0, 1, 0, 0] bd) .d (fr5 newslice6 x25 x26 x27) (cutK nm5 Kb5) (Eblk 2 (cutK nm4 Kb4) (fun _ _ => none)) RR = sh5 newslice6 x25 x26 x27 (fun y0 => Kb4 (fr4 y0)) (fun y0 y1 y2 y3 => Kb5 (fr5 y0 y1 y2 y3)) := by kernel_rfl
noncomputable def f4 (newslice6 : List Df) : R := sh4 newslice6
noncomputable def f5 : Nat → (List Df) → (List (List Df)) → Int → Int → R
  | 0 => fun _ _ _ _ => none
  | n + 1 => fun newslice6 x25 x26 x27 => sh5 newslice6 x25 x26 x27 f4 (f5 n)
noncomputable def f1 (slices0 : List (List Df)) (size3 : Int) : R := sh1 slices0 size3 (f5 100000)
noncomputable def f3 (k2 : (List (List Df)) → Int → (List (List Df)) → Int → Int → R) (slices0 : List (List Df)) (size3 : Int) (x9 : List (List Df)) (x10 : Int) (x11 : Int) : R := sh3 slices0 size3 x9 x10 x11 k2
noncomputable def f2 : Nat → (List (List Df)) → Int → (List (List Df)) → Int → Int → R
  | 0 => fun _ _ _ _ _ => none
  | n + 1 => fun slices0 size3 x9 x10 x11 => sh2 slices0 size3 x9 x10 x11 f1 (f3 (f2 n))
noncomputable def f0 (ls : List (List Df)) : R := sh0 ls (f2 100000)
theorem T4 (newslice6 : List Df) : (hid ct4) (fr4 newslice6) = f4 newslice6 := by
  refine (congrFun (hid_eq _) _).trans <| (P4 newslice6).trans ?_
  show _ = sh4 newslice6
  rfl
theorem T5 : ∀ (n : Nat), ∀ newslice6 x25 x26 x27, it5 (hid ct4) n (fr5 newslice6 x25 x26 x27) = f5 n newslice6 x25 x26 x27 := by
  intro n
  induction n with
  | zero => intros; rfl
  | succ n ih =>
    intro newslice6 x25 x26 x27
    refine (P5 newslice6 x25 x26 x27 (hid ct4) (it5 (hid ct4) n)).trans ?_
    show _ = sh5 newslice6 x25 x26 x27 f4 (f5 n)
    simp only [T4, ih]
theorem H5 (newslice6 : List Df) (x25 : List (List Df)) (x26 : Int) (x27 : Int) : hid (it5 (hid ct4) 100000) (fr5 newslice6 x25 x26 x27) = f5 100000 newslice6 x25 x26 x27 := (congrFun (hid_eq _) _).trans (T5 100000 newslice6 x25 x26 x27)
theorem T1 (slices0 : List (List Df)) (size3 : Int) : (hid ct1) (fr1 slices0 size3) = f1 slices0 size3 := by
  refine (congrFun (hid_eq _) _).trans <| (P1 slices0 size3).trans ?_
  show _ = sh1 slices0 size3 (f5 100000)
  simp only [H5]
theorem T3 (KL2 : Kont U El) (k2 : (List (List Df)) → Int → (List (List Df)) → Int → Int → R) (h2 : ∀ slices0 size3 x9 x10 x11, KL2 (fr2 slices0 size3 x9 x10 x11) = k2 slices0 size3 x9 x10 x11) (slices0 : List (List Df)) (size3 : Int) (x9 : List (List Df)) (x10 : Int) (x11 : Int) : (hid (ct3 (hid ct1) KL2)) (fr3 slices0 size3 x9 x10 x11) = f3 k2 slices0 size3 x9 x10 x11 := by
  refine (congrFun (hid_eq _) _).trans <| (P3 slices0 size3 x9 x10 x11 (hid ct1) KL2).trans ?_
  show _ = sh3 slices0 size3 x9 x10 x11 k2
  simp only [h2]
theorem T2 : ∀ (n : Nat), ∀ slices0 size3 x9 x10 x11, it2 (hid ct1) n (fr2 slices0 size3 x9 x10 x11) = f2 n slices0 size3 x9 x10 x11 := by
  intro n
  induction n with
  | zero => intros; rfl
  | succ n ih =>
    intro slices0 size3 x9 x10 x11
    refine (P2 slices0 size3 x9 x10 x11 (hid ct1) (it2 (hid ct1) n)).trans ?_
    show _ = sh2 slices0 size3 x9 x10 x11 f1 (f3 (f2 n))
    simp only [T1, T3 (it2 (hid ct1) n) (f2 n) ih]
theorem H2 (slices0 : List (List Df)) (size3 : Int) (x9 : List (List Df)) (x10 : Int) (x11 : Int) : hid (it2 (hid ct1) 100000) (fr2 slices0 size3 x9 x10 x11) = f2 100000 slices0 size3 x9 x10 x11 := (congrFun (hid_eq _) _).trans (T2 100000 slices0 size3 x9 x10 x11)
theorem T0 (ls : List (List Df)) : exec X bd (.seq none .d (.seq none .d (.seq (some nm1) (.seq none .d (.block (.loop nm2 (.seq none .d (.seq none .d (.seq (some nm3) .d .d)))))) (.seq none .d (.seq (some nm4) (.seq none .d (.block (.loop nm5 .d))) .d))))) (fr0 ls) RR (fun _ _ => none) RR = f0 ls := by
  refine (P0 ls).trans ?_
  show _ = sh0 ls (f2 100000)
  simp only [H2]
theorem run (ls : List (List Df)) : runFn X bd (.seq none .d (.seq none .d (.seq (some nm1) (.seq none .d (.block (.loop nm2 (.seq none .d (.seq none .d (.seq (some nm3) .d .d)))))) (.seq none .d (.seq (some nm4) (.seq none .d (.block (.loop nm5 .d))) .d))))) nmR [2] [2] [(.lst .ldf ls)] = f0 ls := T0 ls
noncomputable def outC (z : List Df) : R := some (.ful 0, [(0, .rows .df z)])
theorem loop2 (ls : List (List Df)) (hl : ls.length ≤ 10) : ∀ (n i : Nat) (s : Int), ls.length < n + i → i ≤ ls.length → 0 ≤ s → s + lenZ (ls.drop i) ≤ 4000 →
    f2 n ls s ls (Int.ofNat ls.length) (i : Int) = f1 ls (s + lenZ (ls.drop i)) := by
  intro n
  induction n with
  | zero => intro i s h1 h2; omega
  | succ n ih =>
    intro i s h1 h2 h3 h4
    show sh2 ls s ls (Int.ofNat ls.length) i f1 (f3 (f2 n)) = _
    unfold sh2
    by_cases hi : i < ls.length
    · rw [drop_lt hi] at h4
      have hz : 0 ≤ lenZ (ls.drop (i + 1)) := by rw [lenZ_flat]; omega
      simp only [lenZ, Int.ofNat_eq_natCast] at h4
      rw [iltT (by simp; omega), inbT hi, toNat_nat, getD_lt hi, drop_lt hi, wrapI (x := s + Int.ofNat ls[i].length) (by simp; omega) (by simp; omega), iltF (show ¬ s + Int.ofNat ls[i].length < 0 by simp; omega)]
      show f2 n ls (s + Int.ofNat ls[i].length) ls (Int.ofNat ls.length) (IntKind.wrap .i64 ((i : Int) + 1)) = _
      rw [wrapS i (by omega), ih (i + 1) _ (by omega) hi (by simp; omega) (by simp only [Int.ofNat_eq_natCast]; omega)]
      simp only [lenZ]
      rw [Int.add_assoc]
    · have : i = ls.length := by omega
      subst this
      rw [iltF (by simp), List.drop_length]
      simp only [lenZ, Int.add_zero]
      rfl
theorem loop5 (ls : List (List Df)) (hl : ls.length ≤ 10) : ∀ (n i : Nat) (acc : List Df), ls.length < n + i → i ≤ ls.length → acc.length + (List.flatten (ls.drop i)).length ≤ 4000 →
    f5 n acc ls (Int.ofNat ls.length) (i : Int) = outC (acc ++ List.flatten (ls.drop i)) := by
  intro n
  induction n with
  | zero => intro i s h1 h2; omega
  | succ n ih =>
    intro i acc h1 h2 h3
    show sh5 acc ls (Int.ofNat ls.length) i f4 (f5 n) = _
    unfold sh5
    by_cases hi : i < ls.length
    · rw [drop_lt hi, List.flatten_cons, List.length_append] at h3
      rw [iltT (by simp; omega), inbT hi, toNat_nat, getD_lt hi, drop_lt hi, nleT (show (acc.length + ls[i].length) * 40 ≤ 140737488355328 by omega), nleT (show acc.length + ls[i].length ≤ 9223372036854775807 by omega), wrapS i (by omega)]
      show f5 n (acc ++ ls[i]) ls (Int.ofNat ls.length) ((i + 1 : Nat) : Int) = _
      rw [ih (i + 1) _ (by omega) hi (by simp only [List.length_append]; omega), List.flatten_cons, List.append_assoc]
    · have : i = ls.length := by omega
      subst this
      rw [iltF (by simp), List.drop_length]
      show outC acc = _
      rw [List.flatten_nil, List.append_nil]
theorem f0_eq (ls : List (List Df)) (h : lensOk ls = true) : f0 ls = outC (List.flatten ls) := by
  simp only [lensOk, Bool.and_eq_true, nle, decide_eq_true_eq] at h
  obtain ⟨h1, h2⟩ := h
  show f2 100000 ls 0 ls (Int.ofNat ls.length) ((0 : Nat) : Int) = _
  have hz : lenZ ls = ((List.flatten ls).length : Int) := lenZ_flat ls
  rw [loop2 ls h1 100000 0 0 (by omega) (by omega) (by omega) (by show (0 : Int) + lenZ ls ≤ 4000; omega)]
  show sh1 ls (0 + lenZ ls) (f5 100000) = _
  unfold sh1
  rw [ileT (show 0 ≤ 0 + lenZ ls by omega), ileT (show 0 + lenZ ls ≤ 4000 by omega)]
  exact loop5 ls h1 100000 0 [] (by omega) (by omega) (by show 0 + (List.flatten ls).length ≤ 4000; omega)
theorem ok : CtxOk Tryd.prog X := ctxOk tab (by
  intro p hp
  cases hp)
theorem okM : MOk Tryd.prog X := mspecOf_ok _ (by
  intro p hp
  simp only [List.mem_cons, List.not_mem_nil, or_false] at hp
  rcases hp with rfl
  · exact growOk rfl ok)
theorem spec (ls : List (List Df)) (h : (lensOk ls) = true) : CallSpec Tryd.prog E 48 [(.lst .ldf ls)] (.ful 0) [(0, .rows .df (List.flatten ls))] :=
  runFn_sound ok okM Tryd.call48 Tryd.func48 (by kernel_rfl) (by kernel_rfl) (by kernel_rfl) (by show 1 ≤ 36; decide) (by decide) (by rfl) ((run ls).trans (f0_eq ls h))
noncomputable def sp : Sp U El := fun args k => match args with
  | [.lst .ldf ls] => chk (lensOk ls) (k (.ful 0) [(0, .rows .df (List.flatten ls))])
  | _ => none
theorem spOk : SpOk Tryd.prog E 48 sp where
  det := fun vs => by
    unfold sp
    split
    · rename_i ls
      cases hb : (lensOk ls)
      · exact ⟨none, fun _ => rfl⟩
      · exact ⟨some (_, _), fun _ => rfl⟩
    · exact ⟨none, fun _ => rfl⟩
  ok := fun vs k r h => by
    unfold sp at h
    split at h
    · obtain ⟨h1, h2⟩ := chk_some h
      exact ⟨_, _, spec _ h1, h2⟩
    · cases h
end concatF

/-! ### Merge -/
noncomputable def mergeM (a b : List Df) : List Df := compactL (sortDf (a ++ b))
noncomputable def mergeL (a b : List Df) : List Df := bif validB 16777216 a && validB 16777216 b then (bif ilt 1000 (Int.ofNat (mergeM a b).length) then [] else mergeM a b) else []
noncomputable def mergeE (a b : List Df) : Int := bif validB 16777216 a && validB 16777216 b then (bif ilt 1000 (Int.ofNat (mergeM a b).length) then 4 else 0) else 1
theorem sortDf_len (l : List Df) : (sortDf l).length = l.length := List.length_mergeSort _
theorem flat2 (a b : List Df) : List.flatten ([a, b] : List (List Df)) = a ++ b := by simp
namespace merge
noncomputable def bd : Code := (Tryd.f27.body).getD .skip
noncomputable def X : Ctx U El := ⟨E, tds, zeros, eqs, specOf [(21, valid.sp), (48, concatF.sp)], 100000, 27, mspecOf [(49, sortDfSp), (50, compactSp)]⟩
noncomputable def nmR : Norm U := ⟨[(4, .df)], [4, 5], [4], [], [], []⟩
noncomputable def RR : Kont U El := fun st => normK nmR st (retFin [4, 5] [4])
noncomputable def nm1 : Norm U := ⟨[], [0, 1], [], [], [], []⟩
noncomputable def fr0 (a : List Df) (b : List Df) : St U El := ⟨[(0, (.lst .df a)), (1, (.lst .df b))], []⟩
noncomputable def fr1 (a0 : List Df) (b1 : List Df) : St U El := ⟨[(0, (.lst .df a0)), (1, (.lst .df b1))], []⟩
noncomputable def sh0 (a : List Df) (b : List Df) (k1 : (List Df) → (List Df) → R) : R :=
  condB (!(validB (16777216 : Int) a)) (some ((.tup [(.ful 0), (.int .i64 (1 : Int))]), [(0, .rows .df ([] : List Df))])) (condB (!(validB (16777216 : Int) b)) (some ((.tup [(.ful 0), (.int .i64 (1 : Int))]), [(0, .rows .df ([] : List Df))])) (k1 a b))
noncomputable def sh1 (a0 : List Df) (b1 : List Df) : R :=
  chk (lensOk ([a0, b1] : List (List Df))) (chk (true && nle (List.length (List.flatten ([a0, b1] : List (List Df)))) 4611686018427387903) (chk (nle (List.length (sortDf (List.flatten ([a0, b1] : List (List Df))))) 4000) (condB (ilt (1000 : Int) (Int.ofNat (List.length (compactL (sortDf (List.flatten ([a0, b1] : List (List Df)))))))) (some ((.tup [(.ful 0), (.int .i64 (4 : Int))]), [(0, .rows .df ([] : List Df))])) (some ((.tup [(.ful 0), (.int .i64 (0 : Int))]), [(0, .rows .df (compactL (sortDf (List.flatten ([a0, b1] : List (List Df))))))])))))
noncomputable def ct1 : Kont U El := fun st => exec X (cdp [1, 1] bd) .d st RR (fun _ _ => none) RR
theorem P0 (a : List Df) (b : List Df) : exec X (cdp [] bd) (.seq none .d (.seq (some nm1) .d .d)) (fr0 a b) RR (fun _ _ => none) RR = sh0 a b (fun y0 y1 => (hid ct1) (fr1 y0 y1)) := by kernel_rfl
theorem P1 (a0 : List Df) (b1 : List Df) : exec X (cdp [1, 1] bd) .d (fr1 a0 b1) RR (fun _ _ => none) RR = sh1 a0 b1 := by kernel_rfl
noncomputable def f1 (a0 : List Df) (b1 : List Df) : R := sh1 a0 b1
noncomputable def f0 (a : List Df) (b : List Df) : R := sh0 a b f1
theorem T1 (a0 : List Df) (b1 : List Df) : (hid ct1) (fr1 a0 b1) = f1 a0 b1 := by
  refine (congrFun (hid_eq _) _).trans <| (P1 a0 b1).trans ?_
  show _ = sh1 a0 b1
  rfl
theorem T0 (a : List Df) (b : List Df) : exec X bd (.seq none .d (.seq (some nm1) .d .d)) (fr0 a b) RR (fun _ _ => none) RR = f0 a b := by
  refine (P0 a b).trans ?_
  show _ = sh0 a b f1
  simp only [T1]
theorem run (a : List Df) (b : List Df) : runFn X bd (.seq none .d (.seq (some nm1) .d .d)) nmR [4, 5] [4] [(.lst .df a), (.lst .df b)] = f0 a b := T0 a b
noncomputable def outM (z : List Df) (e : Int) : R := some (.tup [.ful 0, .int .i64 e], [(0, .rows .df z)])
theorem f0_eq (a b : List Df) : f0 a b = outM (mergeL a b) (mergeE a b) := by
  show sh0 a b f1 = _
  unfold sh0 mergeL mergeE
  cases ha : validB 16777216 a
  · rfl
  cases hb : validB 16777216 b
  · rfl
  have la := valid_len ha
  have lb := valid_len hb
  show sh1 a b = _
  unfold sh1
  rw [flat2, sortDf_len]
  have h0 : lensOk [a, b] = true := by
    unfold lensOk
    rw [flat2]
    exact Bool.and_eq_true_iff.2 ⟨rfl, nleT (by simp; omega)⟩
  rw [h0, nleT (show (a ++ b).length ≤ 4611686018427387903 by simp; omega), nleT (show (a ++ b).length ≤ 4000 by simp; omega)]
  show condB (ilt (1000 : Int) (Int.ofNat (mergeM a b).length)) _ _ = _
  cases ilt (1000 : Int) (Int.ofNat (mergeM a b).length)
  · rfl
  · rfl
theorem ok : CtxOk Tryd.prog X := ctxOk tab (by
  intro p hp
  simp only [List.mem_cons, List.not_mem_nil, or_false] at hp
  rcases hp with rfl | rfl
  · exact valid.spOk
  · exact concatF.spOk)
theorem okM : MOk Tryd.prog X := mspecOf_ok _ (by
  intro p hp
  simp only [List.mem_cons, List.not_mem_nil, or_false] at hp
  rcases hp with rfl | rfl
  · exact sortDfOk rfl ok
  · exact compactOk rfl ok)
theorem spec (a : List Df) (b : List Df) : CallSpec Tryd.prog E 27 [(.lst .df a), (.lst .df b)] (.tup [(.ful 0), (.int .i64 (mergeE a b))]) [(0, .rows .df (mergeL a b))] :=
  runFn_sound ok okM Tryd.call27 Tryd.func27 (by kernel_rfl) (by kernel_rfl) (by kernel_rfl) (by show 2 ≤ 27; decide) (by decide) (by rfl) ((run a b).trans (f0_eq a b))
noncomputable def sp : Sp U El := fun args k => match args with
  | [.lst .df a, .lst .df b] => k (.tup [(.ful 0), (.int .i64 (mergeE a b))]) [(0, .rows .df (mergeL a b))]
  | _ => none
theorem spOk : SpOk Tryd.prog E 27 sp where
  det := fun vs => by
    unfold sp
    split
    · exact ⟨some (_, _), fun _ => rfl⟩
    · exact ⟨none, fun _ => rfl⟩
  ok := fun vs k r h => by
    unfold sp at h
    split at h
    · exact ⟨_, _, spec _ _, h⟩
    · cases h
end merge

/-! ### Turned -/
noncomputable def turnD (L : Int) (d : Df) : Df := ⟨d.c, L - d.a - d.l, d.l, d.s⟩
noncomputable def turnedL (L : Int) (l : List Df) : List Df := bif validB L l then sortDf (l.map (turnD L)) else []
noncomputable def turnedE (L : Int) (l : List Df) : Int := bif validB L l then 0 else 1
theorem right_at {L : Int} {l : List Df} (h : validB L l = true) {i : Nat} (hi : i < l.length) : rightB L l[i] = true := by
  have : ∀ {r : List Df} {p : Option Df}, chainB L p r = true → ∀ d ∈ r, rightB L d = true := by
    intro r
    induction r with
    | nil => intro p _ d hd; cases hd
    | cons e r ih =>
      intro p h d hd
      simp only [chainB, Bool.and_eq_true] at h
      rcases List.mem_cons.1 hd with rfl | hd
      · exact h.1
      · exact ih h.2.2 d hd
  simp only [validB, Bool.and_eq_true] at h
  exact this h.2.2 _ (List.getElem_mem hi)
theorem right_rng {L : Int} {d : Df} (h : rightB L d = true) : 0 ≤ d.a ∧ d.a ≤ L ∧ 0 ≤ d.l ∧ d.l ≤ L - d.a := by
  simp only [rightB, Bool.and_eq_true, ile, decide_eq_true_eq] at h
  exact ⟨h.2.1, h.2.2.1, h.2.2.2.1, h.2.2.2.2.1⟩
theorem turnW {L : Int} {d : Df} (hL : L ≤ 16777216) (h : rightB L d = true) : (⟨d.c, IntKind.wrap .i64 (IntKind.wrap .i64 (L - d.a) - d.l), d.l, d.s⟩ : Df) = turnD L d := by
  obtain ⟨h1, h2, h3, h4⟩ := right_rng h
  rw [wrapI (x := L - d.a) (by omega) (by omega), wrapI (by omega) (by omega)]
  rfl
namespace turned
noncomputable def bd : Code := (Tryd.f29.body).getD .skip
noncomputable def X : Ctx U El := ⟨E, tds, zeros, eqs, specOf [(21, valid.sp), (23, cloneA.sp)], 100000, 40, mspecOf [(49, sortDfSp)]⟩
noncomputable def nmR : Norm U := ⟨[(4, .df)], [4, 5], [4], [], [], []⟩
noncomputable def RR : Kont U El := fun st => normK nmR st (retFin [4, 5] [4])
noncomputable def nm1 : Norm U := ⟨[(6, .df)], [6], [6], [], [], []⟩
noncomputable def nm2 : Norm U := ⟨[(6, .df)], [1, 6, 15, 16], [6], [], [], []⟩
noncomputable def fr0 (l : List Df) (L : Int) : St U El := ⟨[(0, (.lst .df l)), (1, (.int .i64 L))], []⟩
noncomputable def fr1 (out6 : List Df) : St U El := ⟨[(6, (.ful 6))], [(6, (.rows .df out6))]⟩
noncomputable def fr2 (length1 : Int) (out6 : List Df) (x15 : Int) (x16 : Int) : St U El := ⟨[(1, (.int .i64 length1)), (6, (.ful 6)), (15, (.int .i64 x15)), (16, (.int .i64 x16))], [(6, (.rows .df out6))]⟩
noncomputable def sh0 (l : List Df) (L : Int) (k2 : Int → (List Df) → Int → Int → R) : R :=
  condB (!(validB L l)) (some ((.tup [(.ful 0), (.int .i64 (1 : Int))]), [(0, .rows .df ([] : List Df))])) (chk (nle (List.length l) 1005) (k2 L (l) (Int.ofNat (List.length (l))) (0 : Int)))
noncomputable def sh1 (out6 : List Df) : R :=
  chk (true && nle (List.length out6) 4611686018427387903) (some ((.tup [(.ful 0), (.int .i64 (0 : Int))]), [(0, .rows .df (sortDf out6))]))
noncomputable def sh2 (length1 : Int) (out6 : List Df) (x15 : Int) (x16 : Int) (k1 : (List Df) → R) (k2 : Int → (List Df) → Int → Int → R) : R :=
  condB (ilt x16 x15) (chk (inb x16 (List.length out6)) (chk (nlt (Int.toNat x16) (List.length out6)) (chk (inb x16 (List.length out6)) (chk (nlt (Int.toNat x16) (List.length out6)) (chk (inb x16 (List.length out6)) (chk (nlt (Int.toNat x16) (List.length out6) && true) (k2 length1 (List.set out6 (Int.toNat x16) (⟨(List.getD out6 (Int.toNat x16) d_df).c, (IntKind.wrap .i64 ((IntKind.wrap .i64 (length1 - (List.getD out6 (Int.toNat x16) d_df).a)) - (List.getD out6 (Int.toNat x16) d_df).l)), (List.getD out6 (Int.toNat x16) d_df).l, (List.getD out6 (Int.toNat x16) d_df).s⟩ : Df)) x15 (IntKind.wrap .i64 (x16 + (1 : Int)))))))))) (k1 out6)
noncomputable def it2 (Kb1 : Kont U El) (n : Nat) : Kont U El := iter nm2 (fun st' K' => exec X (cdp [1, 1, 1, 0, 1, 0, 0] bd) (.seq none .d (.seq none .d (.seq none (.block (.seq none .d (.region [(17, 6)]))) .d))) st' K' (Eblk 0 (cutK nm1 Kb1) (fun _ _ => none)) RR) n
noncomputable def ct1 : Kont U El := fun st => exec X (cdp [1, 1, 1, 1] bd) .d st RR (fun _ _ => none) RR
theorem P0 (l : List Df) (L : Int) : exec X (cdp [] bd) (.seq none .d (.seq none .d (.seq none .d (.seq (some nm1) (.seq none .d (.block (.loop nm2 (.seq none .d (.seq none .d (.seq none (.block (.seq none .d (.region [(17, 6)]))) .d)))))) .d)))) (fr0 l L) RR (fun _ _ => none) RR = sh0 l L (fun y0 y1 y2 y3 => (hid (it2 (hid ct1) 100000)) (fr2 y0 y1 y2 y3)) := by kernel_rfl
theorem P1 (out6 : List Df) : exec X (cdp [1, 1, 1, 1] bd) .d (fr1 out6) RR (fun _ _ => none) RR = sh1 out6 := by kernel_rfl
theorem P2 (length1 : Int) (out6 : List Df) (x15 : Int) (x16 : Int) (Kb1 : Kont U El) (Kb2 : Kont U El) : exec X (cdp [1, 1, 1, 0, 1, 0, 0] bd) (.seq none .d (.seq none .d (.seq none (.block (.seq none .d (.region [(17, 6)]))) .d))) (fr2 length1 out6 x15 x16) (cutK nm2 Kb2) (Eblk 0 (cutK nm1 Kb1) (fun _ _ => none)) RR = sh2 length1 out6 x15 x16 (fun y0 => Kb1 (fr1 y0)) (fun y0 y1 y2 y3 => Kb2 (fr2 y0 y1 y2 y3)) := by kernel_rfl
noncomputable def f1 (out6 : List Df) : R := sh1 out6
noncomputable def f2 : Nat → Int → (List Df) → Int → Int → R
  | 0 => fun _ _ _ _ => none
  | n + 1 => fun length1 out6 x15 x16 => sh2 length1 out6 x15 x16 f1 (f2 n)
noncomputable def f0 (l : List Df) (L : Int) : R := sh0 l L (f2 100000)
theorem T1 (out6 : List Df) : (hid ct1) (fr1 out6) = f1 out6 := by
  refine (congrFun (hid_eq _) _).trans <| (P1 out6).trans ?_
  show _ = sh1 out6
  rfl
theorem T2 : ∀ (n : Nat), ∀ length1 out6 x15 x16, it2 (hid ct1) n (fr2 length1 out6 x15 x16) = f2 n length1 out6 x15 x16 := by
  intro n
  induction n with
  | zero => intros; rfl
  | succ n ih =>
    intro length1 out6 x15 x16
    refine (P2 length1 out6 x15 x16 (hid ct1) (it2 (hid ct1) n)).trans ?_
    show _ = sh2 length1 out6 x15 x16 f1 (f2 n)
    simp only [T1, ih]
theorem H2 (length1 : Int) (out6 : List Df) (x15 : Int) (x16 : Int) : hid (it2 (hid ct1) 100000) (fr2 length1 out6 x15 x16) = f2 100000 length1 out6 x15 x16 := (congrFun (hid_eq _) _).trans (T2 100000 length1 out6 x15 x16)
theorem T0 (l : List Df) (L : Int) : exec X bd (.seq none .d (.seq none .d (.seq none .d (.seq (some nm1) (.seq none .d (.block (.loop nm2 (.seq none .d (.seq none .d (.seq none (.block (.seq none .d (.region [(17, 6)]))) .d)))))) .d)))) (fr0 l L) RR (fun _ _ => none) RR = f0 l L := by
  refine (P0 l L).trans ?_
  show _ = sh0 l L (f2 100000)
  simp only [H2]
theorem run (l : List Df) (L : Int) : runFn X bd (.seq none .d (.seq none .d (.seq none .d (.seq (some nm1) (.seq none .d (.block (.loop nm2 (.seq none .d (.seq none .d (.seq none (.block (.seq none .d (.region [(17, 6)]))) .d)))))) .d)))) nmR [4, 5] [4] [(.lst .df l), (.int .i64 L)] = f0 l L := T0 l L
noncomputable def outM (z : List Df) (e : Int) : R := some (.tup [.ful 0, .int .i64 e], [(0, .rows .df z)])
theorem loop (l : List Df) (L : Int) (hv : validB L l = true) : ∀ (n i : Nat), l.length < n + i → i ≤ l.length →
    f2 n L ((l.take i).map (turnD L) ++ l.drop i) (Int.ofNat l.length) (i : Int) = f1 (l.map (turnD L)) := by
  have hl := valid_len hv
  have hL := pos16_iff.1 (valid_okL hv).2
  intro n
  induction n with
  | zero => intro i h1 h2; omega
  | succ n ih =>
    intro i h1 h2
    show sh2 L ((l.take i).map (turnD L) ++ l.drop i) (Int.ofNat l.length) i f1 (f2 n) = _
    have hlen : ((l.take i).map (turnD L) ++ l.drop i).length = l.length := by simp; omega
    unfold sh2
    by_cases hi : i < l.length
    · have hg : ∀ h, ((l.take i).map (turnD L) ++ l.drop i)[i]'h = l[i] := fun h => by
        rw [List.getElem_append_right (by simp; omega)]
        simp [show min i l.length = i by omega]
      rw [iltT (show (i : Int) < Int.ofNat l.length by simp; omega), toNat_nat, inbT (show i < ((l.take i).map (turnD L) ++ l.drop i).length by omega), nltT (show i < ((l.take i).map (turnD L) ++ l.drop i).length by omega), getD_lt (show i < ((l.take i).map (turnD L) ++ l.drop i).length by omega), hg, turnW hL.2 (right_at hv hi), wrapS i (by omega)]
      show f2 n L (List.set ((l.take i).map (turnD L) ++ l.drop i) i (turnD L l[i])) (Int.ofNat l.length) ((i + 1 : Nat) : Int) = _
      rw [← ih (i + 1) (by omega) hi]
      congr 1
      rw [List.set_append_right _ _ (by simp; omega), List.take_add_one, List.getElem?_eq_getElem hi, List.map_append, List.append_assoc]
      congr 1
      rw [show i - ((l.take i).map (turnD L)).length = 0 by simp; omega, drop_lt hi]
      rfl
    · have : i = l.length := by omega
      subst this
      rw [iltF (by simp), List.drop_length, List.append_nil, List.take_length]
      rfl
theorem f0_eq (l : List Df) (L : Int) : f0 l L = outM (turnedL L l) (turnedE L l) := by
  show sh0 l L (f2 100000) = _
  unfold sh0 turnedL turnedE
  cases hv : validB L l
  · rfl
  have hl := valid_len hv
  rw [nleT (show l.length ≤ 1005 by omega)]
  show f2 100000 L l (Int.ofNat l.length) ((0 : Nat) : Int) = _
  have := loop l L hv 100000 0 (by omega) (by omega)
  simp only [List.take_zero, List.map_nil, List.nil_append, List.drop_zero] at this
  rw [this]
  show sh1 (l.map (turnD L)) = _
  unfold sh1
  rw [nleT (show (l.map (turnD L)).length ≤ 4611686018427387903 by simp; omega)]
  rfl
theorem ok : CtxOk Tryd.prog X := ctxOk tab (by
  intro p hp
  simp only [List.mem_cons, List.not_mem_nil, or_false] at hp
  rcases hp with rfl | rfl
  · exact valid.spOk
  · exact cloneA.spOk)
theorem okM : MOk Tryd.prog X := mspecOf_ok _ (by
  intro p hp
  simp only [List.mem_cons, List.not_mem_nil, or_false] at hp
  rcases hp with rfl
  · exact sortDfOk rfl ok)
theorem spec (l : List Df) (L : Int) : CallSpec Tryd.prog E 29 [(.lst .df l), (.int .i64 L)] (.tup [(.ful 0), (.int .i64 (turnedE L l))]) [(0, .rows .df (turnedL L l))] :=
  runFn_sound ok okM Tryd.call29 Tryd.func29 (by kernel_rfl) (by kernel_rfl) (by kernel_rfl) (by show 2 ≤ 40; decide) (by decide) (by rfl) ((run l L).trans (f0_eq l L))
noncomputable def sp : Sp U El := fun args k => match args with
  | [.lst .df l, .int .i64 L] => k (.tup [(.ful 0), (.int .i64 (turnedE L l))]) [(0, .rows .df (turnedL L l))]
  | _ => none
theorem spOk : SpOk Tryd.prog E 29 sp where
  det := fun vs => by
    unfold sp
    split
    · exact ⟨some (_, _), fun _ => rfl⟩
    · exact ⟨none, fun _ => rfl⟩
  ok := fun vs k r h => by
    unfold sp at h
    split at h
    · exact ⟨_, _, spec _ _, h⟩
    · cases h
end turned

/-! ### the document's Put, Merge and Turned -/
noncomputable def putL (d : Df) : List Df → List Df
  | [] => [d]
  | x :: l => bif beforeB x d then x :: putL d l else bif eqDf x d then x :: l else d :: x :: l
theorem putL_len (d : Df) : ∀ l : List Df, (putL d l).length ≤ l.length + 1 := by
  intro l
  induction l with
  | nil => simp [putL]
  | cons x l ih =>
    simp only [putL]
    cases beforeB x d
    · cases eqDf x d
      · simp
      · simp
    · simp only [cond_true, List.length_cons]; omega
namespace rput
noncomputable def bd : Code := (Tryd.f51.body).getD .skip
noncomputable def X : Ctx U El := ⟨E, tds, zeros, eqs, specOf [(40, rbefore.sp)], 100000, 45, fun _ => none⟩
noncomputable def nmR : Norm U := ⟨[], [4], [], [(4, .df)], [], []⟩
noncomputable def RR : Kont U El := fun st => normK nmR st (retFin [4] [])
noncomputable def nm1 : Norm U := ⟨[], [0, 3, 5], [3], [], [], []⟩
noncomputable def nm2 : Norm U := ⟨[], [0, 3, 5], [3], [], [], []⟩
noncomputable def nm3 : Norm U := ⟨[], [0, 3, 5, 11, 12, 14, 15, 16], [3], [], [], []⟩
noncomputable def nm4 : Norm U := ⟨[], [0, 3, 5], [3], [], [], []⟩
noncomputable def fr0 (l : List Df) (d : Df) : St U El := ⟨[(0, (.lst .df l)), (1, (.agg [(.str d.c), (.int .i64 d.a), (.int .i64 d.l), (.int .i64 d.s)]))], []⟩
noncomputable def fr1 (l0 : List Df) (k5 : Int) (b3 : Df) : St U El := ⟨[(0, (.lst .df l0)), (3, (.ptr 3 0)), (5, (.int .i64 k5))], [(3, (.box 0 [(.str b3.c), (.int .i64 b3.a), (.int .i64 b3.l), (.int .i64 b3.s)]))]⟩
noncomputable def fr2 (l0 : List Df) (k5 : Int) (b3 : Df) : St U El := ⟨[(0, (.lst .df l0)), (3, (.ptr 3 0)), (5, (.int .i64 k5))], [(3, (.box 0 [(.str b3.c), (.int .i64 b3.a), (.int .i64 b3.l), (.int .i64 b3.s)]))]⟩
noncomputable def fr3 (l0 : List Df) (k5 : Int) (x11 : List Df) (x12 : Int) (x14 : Df) (x15 : Df) (x16 : Bool) (b3 : Df) : St U El := ⟨[(0, (.lst .df l0)), (3, (.ptr 3 0)), (5, (.int .i64 k5)), (11, (.lst .df x11)), (12, (.int .i64 x12)), (14, (.agg [(.str x14.c), (.int .i64 x14.a), (.int .i64 x14.l), (.int .i64 x14.s)])), (15, (.agg [(.str x15.c), (.int .i64 x15.a), (.int .i64 x15.l), (.int .i64 x15.s)])), (16, (.bool x16))], [(3, (.box 0 [(.str b3.c), (.int .i64 b3.a), (.int .i64 b3.l), (.int .i64 b3.s)]))]⟩
noncomputable def fr4 (l0 : List Df) (k5 : Int) (b3 : Df) : St U El := ⟨[(0, (.lst .df l0)), (3, (.ptr 3 0)), (5, (.int .i64 k5))], [(3, (.box 0 [(.str b3.c), (.int .i64 b3.a), (.int .i64 b3.l), (.int .i64 b3.s)]))]⟩
noncomputable def sh0 (l : List Df) (d : Df) (k2 : (List Df) → Int → Df → R) : R :=
  k2 l (0 : Int) d
noncomputable def sh1 (l0 : List Df) (k5 : Int) (b3 : Df) (k4 : (List Df) → Int → Df → R) : R :=
  condB (ilt k5 (Int.ofNat (List.length l0))) (chk (inb k5 (List.length l0)) (condB (((List.getD l0 (Int.toNat k5) d_df).c == b3.c) && (((List.getD l0 (Int.toNat k5) d_df).a == b3.a) && (((List.getD l0 (Int.toNat k5) d_df).l == b3.l) && (((List.getD l0 (Int.toNat k5) d_df).s == b3.s) && true)))) (some ((.lst .df l0), [])) (k4 l0 k5 b3))) (k4 l0 k5 b3)
noncomputable def sh2 (l0 : List Df) (k5 : Int) (b3 : Df) (k1 : (List Df) → Int → Df → R) (k3 : (List Df) → Int → (List Df) → Int → Df → Df → Bool → Df → R) : R :=
  condB (ilt k5 (Int.ofNat (List.length l0))) (chk (inb k5 (List.length l0)) (condB (beforeB (List.getD l0 (Int.toNat k5) d_df) b3) (k3 l0 k5 l0 k5 (List.getD l0 (Int.toNat k5) d_df) b3 (beforeB (List.getD l0 (Int.toNat k5) d_df) b3) b3) (k1 l0 k5 b3))) (k1 l0 k5 b3)
noncomputable def sh3 (l0 : List Df) (k5 : Int) (x11 : List Df) (x12 : Int) (x14 : Df) (x15 : Df) (x16 : Bool) (b3 : Df) (k2 : (List Df) → Int → Df → R) : R :=
  k2 l0 (IntKind.wrap .i64 (k5 + (1 : Int))) b3
noncomputable def sh4 (l0 : List Df) (k5 : Int) (b3 : Df) : R :=
  chk (ile 0 (0 : Int) && ile (0 : Int) k5 && ile k5 (Int.ofNat (List.length l0))) (chk (nle ((List.length ([] : List Df) + List.length (sub l0 (0 : Int) k5)) * 40) 140737488355328 && nle (List.length ([] : List Df) + List.length (sub l0 (0 : Int) k5)) 9223372036854775807) (chk (nle ((List.length (([] : List Df) ++ (sub l0 (0 : Int) k5)) + List.length ([b3] : List Df)) * 40) 140737488355328 && nle (List.length (([] : List Df) ++ (sub l0 (0 : Int) k5)) + List.length ([b3] : List Df)) 9223372036854775807) (chk (ile 0 k5 && ile k5 (Int.ofNat (List.length l0)) && ile (Int.ofNat (List.length l0)) (Int.ofNat (List.length l0))) (chk (nle ((List.length ((([] : List Df) ++ (sub l0 (0 : Int) k5)) ++ ([b3] : List Df)) + List.length (sub l0 k5 (Int.ofNat (List.length l0)))) * 40) 140737488355328 && nle (List.length ((([] : List Df) ++ (sub l0 (0 : Int) k5)) ++ ([b3] : List Df)) + List.length (sub l0 k5 (Int.ofNat (List.length l0)))) 9223372036854775807) (some ((.lst .df (((([] : List Df) ++ (sub l0 (0 : Int) k5)) ++ ([b3] : List Df)) ++ (sub l0 k5 (Int.ofNat (List.length l0))))), []))))))
noncomputable def it2 (Kb1 : Kont U El) (n : Nat) : Kont U El := iter nm2 (fun st' K' => exec X (cdp [1, 1, 0, 0, 0] bd) (.seq (some nm3) .d .d) st' K' (Eblk 0 (cutK nm1 Kb1) (fun _ _ => none)) RR) n
noncomputable def ct1 : Kont U El := fun st => exec X (cdp [1, 1, 1] bd) (.seq (some nm4) .d (.seq none (.region [(4, 33), (7, 37), (11, 40)]) .d)) st RR (fun _ _ => none) RR
noncomputable def ct3 (Kb1 : Kont U El) (Kb2 : Kont U El) : Kont U El := fun st => exec X (cdp [1, 1, 0, 0, 0, 1] bd) .d st (cutK nm2 Kb2) (Eblk 0 (cutK nm1 Kb1) (fun _ _ => none)) RR
noncomputable def ct4 : Kont U El := fun st => exec X (cdp [1, 1, 1, 1] bd) (.seq none (.region [(4, 33), (7, 37), (11, 40)]) .d) st RR (fun _ _ => none) RR
theorem P0 (l : List Df) (d : Df) : exec X (cdp [] bd) (.seq none .d (.seq none .d (.seq (some nm1) (.block (.loop nm2 (.seq (some nm3) .d .d))) (.seq (some nm4) .d (.seq none (.region [(4, 33), (7, 37), (11, 40)]) .d))))) (fr0 l d) RR (fun _ _ => none) RR = sh0 l d (fun y0 y1 y2 => (hid (it2 (hid ct1) 100000)) (fr2 y0 y1 y2)) := by kernel_rfl
theorem P1 (l0 : List Df) (k5 : Int) (b3 : Df) : exec X (cdp [1, 1, 1] bd) (.seq (some nm4) .d (.seq none (.region [(4, 33), (7, 37), (11, 40)]) .d)) (fr1 l0 k5 b3) RR (fun _ _ => none) RR = sh1 l0 k5 b3 (fun y0 y1 y2 => (hid ct4) (fr4 y0 y1 y2)) := by kernel_rfl
theorem P2 (l0 : List Df) (k5 : Int) (b3 : Df) (Kb1 : Kont U El) (Kb2 : Kont U El) : exec X (cdp [1, 1, 0, 0, 0] bd) (.seq (some nm3) .d .d) (fr2 l0 k5 b3) (cutK nm2 Kb2) (Eblk 0 (cutK nm1 Kb1) (fun _ _ => none)) RR = sh2 l0 k5 b3 (fun y0 y1 y2 => Kb1 (fr1 y0 y1 y2)) (fun y0 y1 y2 y3 y4 y5 y6 y7 => (hid (ct3 Kb1 Kb2)) (fr3 y0 y1 y2 y3 y4 y5 y6 y7)) := by kernel_rfl
theorem P3 (l0 : List Df) (k5 : Int) (x11 : List Df) (x12 : Int) (x14 : Df) (x15 : Df) (x16 : Bool) (b3 : Df) (Kb1 : Kont U El) (Kb2 : Kont U El) : exec X (cdp [1, 1, 0, 0, 0, 1] bd) .d (fr3 l0 k5 x11 x12 x14 x15 x16 b3) (cutK nm2 Kb2) (Eblk 0 (cutK nm1 Kb1) (fun _ _ => none)) RR = sh3 l0 k5 x11 x12 x14 x15 x16 b3 (fun y0 y1 y2 => Kb2 (fr2 y0 y1 y2)) := by kernel_rfl
theorem P4 (l0 : List Df) (k5 : Int) (b3 : Df) : exec X (cdp [1, 1, 1, 1] bd) (.seq none (.region [(4, 33), (7, 37), (11, 40)]) .d) (fr4 l0 k5 b3) RR (fun _ _ => none) RR = sh4 l0 k5 b3 := by kernel_rfl
noncomputable def f4 (l0 : List Df) (k5 : Int) (b3 : Df) : R := sh4 l0 k5 b3
noncomputable def f1 (l0 : List Df) (k5 : Int) (b3 : Df) : R := sh1 l0 k5 b3 f4
noncomputable def f3 (k2 : (List Df) → Int → Df → R) (l0 : List Df) (k5 : Int) (x11 : List Df) (x12 : Int) (x14 : Df) (x15 : Df) (x16 : Bool) (b3 : Df) : R := sh3 l0 k5 x11 x12 x14 x15 x16 b3 k2
noncomputable def f2 : Nat → (List Df) → Int → Df → R
  | 0 => fun _ _ _ => none
  | n + 1 => fun l0 k5 b3 => sh2 l0 k5 b3 f1 (f3 (f2 n))
noncomputable def f0 (l : List Df) (d : Df) : R := sh0 l d (f2 100000)
theorem T4 (l0 : List Df) (k5 : Int) (b3 : Df) : (hid ct4) (fr4 l0 k5 b3) = f4 l0 k5 b3 := by
  refine (congrFun (hid_eq _) _).trans <| (P4 l0 k5 b3).trans ?_
  show _ = sh4 l0 k5 b3
  rfl
theorem T1 (l0 : List Df) (k5 : Int) (b3 : Df) : (hid ct1) (fr1 l0 k5 b3) = f1 l0 k5 b3 := by
  refine (congrFun (hid_eq _) _).trans <| (P1 l0 k5 b3).trans ?_
  show _ = sh1 l0 k5 b3 f4
  simp only [T4]
theorem T3 (KL2 : Kont U El) (k2 : (List Df) → Int → Df → R) (h2 : ∀ l0 k5 b3, KL2 (fr2 l0 k5 b3) = k2 l0 k5 b3) (l0 : List Df) (k5 : Int) (x11 : List Df) (x12 : Int) (x14 : Df) (x15 : Df) (x16 : Bool) (b3 : Df) : (hid (ct3 (hid ct1) KL2)) (fr3 l0 k5 x11 x12 x14 x15 x16 b3) = f3 k2 l0 k5 x11 x12 x14 x15 x16 b3 := by
  refine (congrFun (hid_eq _) _).trans <| (P3 l0 k5 x11 x12 x14 x15 x16 b3 (hid ct1) KL2).trans ?_
  show _ = sh3 l0 k5 x11 x12 x14 x15 x16 b3 k2
  simp only [h2]
theorem T2 : ∀ (n : Nat), ∀ l0 k5 b3, it2 (hid ct1) n (fr2 l0 k5 b3) = f2 n l0 k5 b3 := by
  intro n
  induction n with
  | zero => intros; rfl
  | succ n ih =>
    intro l0 k5 b3
    refine (P2 l0 k5 b3 (hid ct1) (it2 (hid ct1) n)).trans ?_
    show _ = sh2 l0 k5 b3 f1 (f3 (f2 n))
    simp only [T1, T3 (it2 (hid ct1) n) (f2 n) ih]
theorem H2 (l0 : List Df) (k5 : Int) (b3 : Df) : hid (it2 (hid ct1) 100000) (fr2 l0 k5 b3) = f2 100000 l0 k5 b3 := (congrFun (hid_eq _) _).trans (T2 100000 l0 k5 b3)
theorem T0 (l : List Df) (d : Df) : exec X bd (.seq none .d (.seq none .d (.seq (some nm1) (.block (.loop nm2 (.seq (some nm3) .d .d))) (.seq (some nm4) .d (.seq none (.region [(4, 33), (7, 37), (11, 40)]) .d))))) (fr0 l d) RR (fun _ _ => none) RR = f0 l d := by
  refine (P0 l d).trans ?_
  show _ = sh0 l d (f2 100000)
  simp only [H2]
theorem run (l : List Df) (d : Df) : runFn X bd (.seq none .d (.seq none .d (.seq (some nm1) (.block (.loop nm2 (.seq (some nm3) .d .d))) (.seq (some nm4) .d (.seq none (.region [(4, 33), (7, 37), (11, 40)]) .d))))) nmR [4] [] [(.lst .df l), (.agg [(.str d.c), (.int .i64 d.a), (.int .i64 d.l), (.int .i64 d.s)])] = f0 l d := T0 l d
noncomputable def outP (z : List Df) : R := some (.lst .df z, [])
theorem fin (l : List Df) (i : Nat) (d : Df) (hi : i ≤ l.length) (hl : l.length ≤ 4000) : f4 l (i : Int) d = outP (l.take i ++ d :: l.drop i) := by
  show sh4 l (i : Int) d = _
  have e1 : sub l (0 : Int) (i : Int) = l.take i := by
    show (l.drop 0).take (i - 0) = _
    simp
  have e2 : sub l (i : Int) (Int.ofNat l.length) = l.drop i := by
    show (l.drop i).take (l.length - i) = _
    exact List.take_of_length_le (by simp)
  unfold sh4
  rw [e1, e2]
  simp only [List.nil_append, List.length_nil, Nat.zero_add, List.length_append, List.length_take, List.length_drop, List.length_cons]
  rw [ileT (Int.le_refl 0), ileT (show (0 : Int) ≤ (i : Int) by omega), ileT (show (i : Int) ≤ Int.ofNat l.length by simp; omega), ileT (Int.le_refl (Int.ofNat l.length)), nleT (show min i l.length * 40 ≤ 140737488355328 by omega), nleT (show min i l.length ≤ 9223372036854775807 by omega), nleT (show (min i l.length + 1) * 40 ≤ 140737488355328 by omega), nleT (show min i l.length + 1 ≤ 9223372036854775807 by omega),
    nleT (show (min i l.length + 1 + (l.length - i)) * 40 ≤ 140737488355328 by omega), nleT (show min i l.length + 1 + (l.length - i) ≤ 9223372036854775807 by omega)]
  show outP (l.take i ++ [d] ++ l.drop i) = _
  rw [List.append_assoc]
  rfl
theorem fin1 (l : List Df) (i : Nat) (d : Df) (hi : i < l.length) (hl : l.length ≤ 4000) (hb : beforeB l[i] d = false) : f1 l (i : Int) d = outP (l.take i ++ putL d (l.drop i)) := by
  show sh1 l (i : Int) d f4 = _
  unfold sh1
  rw [iltT (show (i : Int) < Int.ofNat l.length by simp; omega), inbT hi, toNat_nat, getD_lt hi, drop_lt hi]
  unfold putL
  rw [hb]
  show condB (eqDf l[i] d) _ _ = _
  cases he : eqDf l[i] d
  · show f4 l (i : Int) d = _
    rw [fin l i d (by omega) hl, drop_lt hi]
    rfl
  · show outP l = _
    rw [cond_false, cond_true, ← drop_lt hi, List.take_append_drop]
theorem loop (l : List Df) (d : Df) (hl : l.length ≤ 4000) : ∀ (n i : Nat), l.length < n + i → i ≤ l.length → f2 n l (i : Int) d = outP (l.take i ++ putL d (l.drop i)) := by
  intro n
  induction n with
  | zero => intro i h1 h2; omega
  | succ n ih =>
    intro i h1 h2
    show sh2 l (i : Int) d f1 (f3 (f2 n)) = _
    unfold sh2
    by_cases hi : i < l.length
    · rw [iltT (show (i : Int) < Int.ofNat l.length by simp; omega), inbT hi, toNat_nat, getD_lt hi]
      cases hb : beforeB l[i] d
      · exact fin1 l i d hi hl hb
      · show f2 n l (IntKind.wrap .i64 ((i : Int) + 1)) d = _
        rw [wrapS i (by omega), ih (i + 1) (by omega) hi, drop_lt hi, List.take_add_one, List.getElem?_eq_getElem hi, List.append_assoc]
        have : putL d (l[i] :: l.drop (i + 1)) = l[i] :: putL d (l.drop (i + 1)) := by
          simp only [putL, hb, cond_true]
        rw [this]
        rfl
    · have : i = l.length := by omega
      subst this
      rw [iltF (by simp), List.drop_length]
      show sh1 l (l.length : Int) d f4 = _
      unfold sh1
      rw [iltF (by simp)]
      show f4 l (l.length : Int) d = _
      rw [fin l l.length d (Nat.le_refl _) hl, List.drop_length]
      rfl
theorem f0_eq (l : List Df) (d : Df) (h : nle (List.length l) 4000 = true) : f0 l d = outP (putL d l) := by
  have hl : l.length ≤ 4000 := of_decide_eq_true h
  exact loop l d hl 100000 0 (by omega) (by omega)
theorem ok : CtxOk Tryd.prog X := ctxOk tab (by
  intro p hp
  simp only [List.mem_cons, List.not_mem_nil, or_false] at hp
  rcases hp with rfl
  · exact rbefore.spOk)
theorem okM : MOk Tryd.prog X := fun g sp h => by cases h
theorem spec (l : List Df) (d : Df) (h : (nle (List.length l) 4000) = true) : CallSpec Tryd.prog E 51 [(.lst .df l), (.agg [(.str d.c), (.int .i64 d.a), (.int .i64 d.l), (.int .i64 d.s)])] (.lst .df (putL d l)) [] :=
  runFn_sound ok okM Tryd.call51 Tryd.func51 (by kernel_rfl) (by kernel_rfl) (by kernel_rfl) (by show 2 ≤ 45; decide) (by decide) (by rfl) ((run l d).trans (f0_eq l d h))
noncomputable def sp : Sp U El := fun args k => match args with
  | [.lst .df l, .agg [.str d_c, .int .i64 d_a, .int .i64 d_l, .int .i64 d_s]] => chk (nle (List.length l) 4000) (k (.lst .df (putL (⟨d_c, d_a, d_l, d_s⟩ : Df) l)) [])
  | _ => none
theorem spOk : SpOk Tryd.prog E 51 sp where
  det := fun vs => by
    unfold sp
    split
    · rename_i l d_c d_a d_l d_s
      cases hb : (nle (List.length l) 4000)
      · exact ⟨none, fun _ => rfl⟩
      · exact ⟨some (_, _), fun _ => rfl⟩
    · exact ⟨none, fun _ => rfl⟩
  ok := fun vs k r h => by
    unfold sp at h
    split at h
    · obtain ⟨h1, h2⟩ := chk_some h
      exact ⟨_, _, spec _ ⟨_, _, _, _⟩ h1, h2⟩
    · cases h
end rput

noncomputable def putsL (out : List Df) : List Df → List Df
  | [] => out
  | d :: l => putsL (putL d out) l
noncomputable def rmergeL (a b : List Df) : List Df := putsL a b
noncomputable def rturnedL (L : Int) (l : List Df) : List Df := putsL [] (l.map (turnD L))
namespace rmerge
noncomputable def bd : Code := (Tryd.f31.body).getD .skip
noncomputable def X : Ctx U El := ⟨E, tds, zeros, eqs, specOf [(51, rput.sp)], 100000, 23, fun _ => none⟩
noncomputable def nmR : Norm U := ⟨[], [4], [], [(4, .df)], [], []⟩
noncomputable def RR : Kont U El := fun st => normK nmR st (retFin [4] [])
noncomputable def nm1 : Norm U := ⟨[], [5], [], [(5, .df)], [], []⟩
noncomputable def nm2 : Norm U := ⟨[], [1, 5, 6], [], [(5, .df)], [], []⟩
noncomputable def fr0 (a : List Df) (b : List Df) : St U El := ⟨[(0, (.lst .df a)), (1, (.lst .df b))], []⟩
noncomputable def fr1 (out5 : List Df) : St U El := ⟨[(5, (.lst .df out5))], []⟩
noncomputable def fr2 (b1 : List Df) (out5 : List Df) (i6 : Int) : St U El := ⟨[(1, (.lst .df b1)), (5, (.lst .df out5)), (6, (.int .i64 i6))], []⟩
noncomputable def sh0 (a : List Df) (b : List Df) (k2 : (List Df) → (List Df) → Int → R) : R :=
  chk (nle ((List.length ([] : List Df) + List.length a) * 40) 140737488355328 && nle (List.length ([] : List Df) + List.length a) 9223372036854775807) (k2 b (([] : List Df) ++ a) (0 : Int))
noncomputable def sh1 (out5 : List Df) : R :=
  some ((.lst .df out5), [])
noncomputable def sh2 (b1 : List Df) (out5 : List Df) (i6 : Int) (k1 : (List Df) → R) (k2 : (List Df) → (List Df) → Int → R) : R :=
  condB (ilt i6 (Int.ofNat (List.length b1))) (chk (inb i6 (List.length b1)) (chk (nle (List.length out5) 4000) (k2 b1 (putL (List.getD b1 (Int.toNat i6) d_df) out5) (IntKind.wrap .i64 (i6 + (1 : Int)))))) (k1 out5)
noncomputable def it2 (Kb1 : Kont U El) (n : Nat) : Kont U El := iter nm2 (fun st' K' => exec X (cdp [1, 1, 0, 1, 0, 0] bd) .d st' K' (Eblk 0 (cutK nm1 Kb1) (fun _ _ => none)) RR) n
noncomputable def ct1 : Kont U El := fun st => exec X (cdp [1, 1, 1] bd) .d st RR (fun _ _ => none) RR
theorem P0 (a : List Df) (b : List Df) : exec X (cdp [] bd) (.seq none .d (.seq none .d (.seq (some nm1) (.seq none .d (.block (.loop nm2 .d))) .d))) (fr0 a b) RR (fun _ _ => none) RR = sh0 a b (fun y0 y1 y2 => (hid (it2 (hid ct1) 100000)) (fr2 y0 y1 y2)) := by kernel_rfl
theorem P1 (out5 : List Df) : exec X (cdp [1, 1, 1] bd) .d (fr1 out5) RR (fun _ _ => none) RR = sh1 out5 := by kernel_rfl
theorem P2 (b1 : List Df) (out5 : List Df) (i6 : Int) (Kb1 : Kont U El) (Kb2 : Kont U El) : exec X (cdp [1, 1, 0, 1, 0, 0] bd) .d (fr2 b1 out5 i6) (cutK nm2 Kb2) (Eblk 0 (cutK nm1 Kb1) (fun _ _ => none)) RR = sh2 b1 out5 i6 (fun y0 => Kb1 (fr1 y0)) (fun y0 y1 y2 => Kb2 (fr2 y0 y1 y2)) := by kernel_rfl
noncomputable def f1 (out5 : List Df) : R := sh1 out5
noncomputable def f2 : Nat → (List Df) → (List Df) → Int → R
  | 0 => fun _ _ _ => none
  | n + 1 => fun b1 out5 i6 => sh2 b1 out5 i6 f1 (f2 n)
noncomputable def f0 (a : List Df) (b : List Df) : R := sh0 a b (f2 100000)
theorem T1 (out5 : List Df) : (hid ct1) (fr1 out5) = f1 out5 := by
  refine (congrFun (hid_eq _) _).trans <| (P1 out5).trans ?_
  show _ = sh1 out5
  rfl
theorem T2 : ∀ (n : Nat), ∀ b1 out5 i6, it2 (hid ct1) n (fr2 b1 out5 i6) = f2 n b1 out5 i6 := by
  intro n
  induction n with
  | zero => intros; rfl
  | succ n ih =>
    intro b1 out5 i6
    refine (P2 b1 out5 i6 (hid ct1) (it2 (hid ct1) n)).trans ?_
    show _ = sh2 b1 out5 i6 f1 (f2 n)
    simp only [T1, ih]
theorem H2 (b1 : List Df) (out5 : List Df) (i6 : Int) : hid (it2 (hid ct1) 100000) (fr2 b1 out5 i6) = f2 100000 b1 out5 i6 := (congrFun (hid_eq _) _).trans (T2 100000 b1 out5 i6)
theorem T0 (a : List Df) (b : List Df) : exec X bd (.seq none .d (.seq none .d (.seq (some nm1) (.seq none .d (.block (.loop nm2 .d))) .d))) (fr0 a b) RR (fun _ _ => none) RR = f0 a b := by
  refine (P0 a b).trans ?_
  show _ = sh0 a b (f2 100000)
  simp only [H2]
theorem run (a : List Df) (b : List Df) : runFn X bd (.seq none .d (.seq none .d (.seq (some nm1) (.seq none .d (.block (.loop nm2 .d))) .d))) nmR [4] [] [(.lst .df a), (.lst .df b)] = f0 a b := T0 a b
noncomputable def outP (z : List Df) : R := some (.lst .df z, [])
theorem loop (b : List Df) (hb : b.length ≤ 1005) : ∀ (n i : Nat) (out : List Df), b.length < n + i → i ≤ b.length → out.length ≤ 2000 + i → f2 n b out (i : Int) = outP (putsL out (b.drop i)) := by
  intro n
  induction n with
  | zero => intro i out h1 h2; omega
  | succ n ih =>
    intro i out h1 h2 h3
    show sh2 b out (i : Int) f1 (f2 n) = _
    unfold sh2
    by_cases hi : i < b.length
    · rw [iltT (show (i : Int) < Int.ofNat b.length by simp; omega), inbT hi, toNat_nat, getD_lt hi, drop_lt hi, nleT (show out.length ≤ 4000 by omega), wrapS i (by omega)]
      have := putL_len b[i] out
      exact ih (i + 1) _ (by omega) hi (by omega)
    · have : i = b.length := by omega
      subst this
      rw [iltF (by simp), List.drop_length]
      rfl
theorem f0_eq (a b : List Df) (h : (nle (List.length a) 1005 && nle (List.length b) 1005) = true) : f0 a b = outP (rmergeL a b) := by
  simp only [Bool.and_eq_true, nle, decide_eq_true_eq] at h
  show sh0 a b (f2 100000) = _
  unfold sh0
  rw [show List.length ([] : List Df) = 0 from rfl, nleT (show (0 + a.length) * 40 ≤ 140737488355328 by omega), nleT (show 0 + a.length ≤ 9223372036854775807 by omega)]
  exact loop b h.2 100000 0 a (by omega) (by omega) (by omega)
theorem ok : CtxOk Tryd.prog X := ctxOk tab (by
  intro p hp
  simp only [List.mem_cons, List.not_mem_nil, or_false] at hp
  rcases hp with rfl
  · exact rput.spOk)
theorem okM : MOk Tryd.prog X := fun g sp h => by cases h
theorem spec (a : List Df) (b : List Df) (h : ((nle (List.length a) 1005 && nle (List.length b) 1005)) = true) : CallSpec Tryd.prog E 31 [(.lst .df a), (.lst .df b)] (.lst .df (rmergeL a b)) [] :=
  runFn_sound ok okM Tryd.call31 Tryd.func31 (by kernel_rfl) (by kernel_rfl) (by kernel_rfl) (by show 2 ≤ 23; decide) (by decide) (by rfl) ((run a b).trans (f0_eq a b h))
noncomputable def sp : Sp U El := fun args k => match args with
  | [.lst .df a, .lst .df b] => chk ((nle (List.length a) 1005 && nle (List.length b) 1005)) (k (.lst .df (rmergeL a b)) [])
  | _ => none
theorem spOk : SpOk Tryd.prog E 31 sp where
  det := fun vs => by
    unfold sp
    split
    · rename_i a b
      cases hb : ((nle (List.length a) 1005 && nle (List.length b) 1005))
      · exact ⟨none, fun _ => rfl⟩
      · exact ⟨some (_, _), fun _ => rfl⟩
    · exact ⟨none, fun _ => rfl⟩
  ok := fun vs k r h => by
    unfold sp at h
    split at h
    · obtain ⟨h1, h2⟩ := chk_some h
      exact ⟨_, _, spec _ _ h1, h2⟩
    · cases h
end rmerge

namespace rturned
noncomputable def bd : Code := (Tryd.f30.body).getD .skip
noncomputable def X : Ctx U El := ⟨E, tds, zeros, eqs, specOf [(51, rput.sp)], 100000, 30, fun _ => none⟩
noncomputable def nmR : Norm U := ⟨[], [4], [], [(4, .df)], [], []⟩
noncomputable def RR : Kont U El := fun st => normK nmR st (retFin [4] [])
noncomputable def nm1 : Norm U := ⟨[], [5], [], [(5, .df)], [], []⟩
noncomputable def nm2 : Norm U := ⟨[], [0, 1, 5, 6], [], [(5, .df)], [], []⟩
noncomputable def fr0 (l : List Df) (L : Int) : St U El := ⟨[(0, (.lst .df l)), (1, (.int .i64 L))], []⟩
noncomputable def fr1 (out5 : List Df) : St U El := ⟨[(5, (.lst .df out5))], []⟩
noncomputable def fr2 (l0 : List Df) (length1 : Int) (out5 : List Df) (i6 : Int) : St U El := ⟨[(0, (.lst .df l0)), (1, (.int .i64 length1)), (5, (.lst .df out5)), (6, (.int .i64 i6))], []⟩
noncomputable def sh0 (l : List Df) (L : Int) (k2 : (List Df) → Int → (List Df) → Int → R) : R :=
  k2 l L ([] : List Df) (0 : Int)
noncomputable def sh1 (out5 : List Df) : R :=
  some ((.lst .df out5), [])
noncomputable def sh2 (l0 : List Df) (length1 : Int) (out5 : List Df) (i6 : Int) (k1 : (List Df) → R) (k2 : (List Df) → Int → (List Df) → Int → R) : R :=
  condB (ilt i6 (Int.ofNat (List.length l0))) (chk (inb i6 (List.length l0)) (chk (nle (List.length out5) 4000) (k2 l0 length1 (putL (⟨(List.getD l0 (Int.toNat i6) d_df).c, (IntKind.wrap .i64 ((IntKind.wrap .i64 (length1 - (List.getD l0 (Int.toNat i6) d_df).a)) - (List.getD l0 (Int.toNat i6) d_df).l)), (List.getD l0 (Int.toNat i6) d_df).l, (List.getD l0 (Int.toNat i6) d_df).s⟩ : Df) out5) (IntKind.wrap .i64 (i6 + (1 : Int)))))) (k1 out5)
noncomputable def it2 (Kb1 : Kont U El) (n : Nat) : Kont U El := iter nm2 (fun st' K' => exec X (cdp [1, 1, 0, 1, 0, 0] bd) .d st' K' (Eblk 0 (cutK nm1 Kb1) (fun _ _ => none)) RR) n
noncomputable def ct1 : Kont U El := fun st => exec X (cdp [1, 1, 1] bd) .d st RR (fun _ _ => none) RR
theorem P0 (l : List Df) (L : Int) : exec X (cdp [] bd) (.seq none .d (.seq none .d (.seq (some nm1) (.seq none .d (.block (.loop nm2 .d))) .d))) (fr0 l L) RR (fun _ _ => none) RR = sh0 l L (fun y0 y1 y2 y3 => (hid (it2 (hid ct1) 100000)) (fr2 y0 y1 y2 y3)) := by kernel_rfl
theorem P1 (out5 : List Df) : exec X (cdp [1, 1, 1] bd) .d (fr1 out5) RR (fun _ _ => none) RR = sh1 out5 := by kernel_rfl
theorem P2 (l0 : List Df) (length1 : Int) (out5 : List Df) (i6 : Int) (Kb1 : Kont U El) (Kb2 : Kont U El) : exec X (cdp [1, 1, 0, 1, 0, 0] bd) .d (fr2 l0 length1 out5 i6) (cutK nm2 Kb2) (Eblk 0 (cutK nm1 Kb1) (fun _ _ => none)) RR = sh2 l0 length1 out5 i6 (fun y0 => Kb1 (fr1 y0)) (fun y0 y1 y2 y3 => Kb2 (fr2 y0 y1 y2 y3)) := by kernel_rfl
noncomputable def f1 (out5 : List Df) : R := sh1 out5
noncomputable def f2 : Nat → (List Df) → Int → (List Df) → Int → R
  | 0 => fun _ _ _ _ => none
  | n + 1 => fun l0 length1 out5 i6 => sh2 l0 length1 out5 i6 f1 (f2 n)
noncomputable def f0 (l : List Df) (L : Int) : R := sh0 l L (f2 100000)
theorem T1 (out5 : List Df) : (hid ct1) (fr1 out5) = f1 out5 := by
  refine (congrFun (hid_eq _) _).trans <| (P1 out5).trans ?_
  show _ = sh1 out5
  rfl
theorem T2 : ∀ (n : Nat), ∀ l0 length1 out5 i6, it2 (hid ct1) n (fr2 l0 length1 out5 i6) = f2 n l0 length1 out5 i6 := by
  intro n
  induction n with
  | zero => intros; rfl
  | succ n ih =>
    intro l0 length1 out5 i6
    refine (P2 l0 length1 out5 i6 (hid ct1) (it2 (hid ct1) n)).trans ?_
    show _ = sh2 l0 length1 out5 i6 f1 (f2 n)
    simp only [T1, ih]
theorem H2 (l0 : List Df) (length1 : Int) (out5 : List Df) (i6 : Int) : hid (it2 (hid ct1) 100000) (fr2 l0 length1 out5 i6) = f2 100000 l0 length1 out5 i6 := (congrFun (hid_eq _) _).trans (T2 100000 l0 length1 out5 i6)
theorem T0 (l : List Df) (L : Int) : exec X bd (.seq none .d (.seq none .d (.seq (some nm1) (.seq none .d (.block (.loop nm2 .d))) .d))) (fr0 l L) RR (fun _ _ => none) RR = f0 l L := by
  refine (P0 l L).trans ?_
  show _ = sh0 l L (f2 100000)
  simp only [H2]
theorem run (l : List Df) (L : Int) : runFn X bd (.seq none .d (.seq none .d (.seq (some nm1) (.seq none .d (.block (.loop nm2 .d))) .d))) nmR [4] [] [(.lst .df l), (.int .i64 L)] = f0 l L := T0 l L
noncomputable def outP (z : List Df) : R := some (.lst .df z, [])
theorem loop (l : List Df) (L : Int) (hv : validB L l = true) : ∀ (n i : Nat) (out : List Df), l.length < n + i → i ≤ l.length → out.length ≤ i → f2 n l L out (i : Int) = outP (putsL out ((l.drop i).map (turnD L))) := by
  have hl := valid_len hv
  have hL := pos16_iff.1 (valid_okL hv).2
  intro n
  induction n with
  | zero => intro i out h1 h2; omega
  | succ n ih =>
    intro i out h1 h2 h3
    show sh2 l L out (i : Int) f1 (f2 n) = _
    unfold sh2
    by_cases hi : i < l.length
    · rw [iltT (show (i : Int) < Int.ofNat l.length by simp; omega), inbT hi, toNat_nat, getD_lt hi, drop_lt hi, nleT (show out.length ≤ 4000 by omega), wrapS i (by omega), turnW hL.2 (right_at hv hi)]
      have := putL_len (turnD L l[i]) out
      exact ih (i + 1) _ (by omega) hi (by omega)
    · have : i = l.length := by omega
      subst this
      rw [iltF (by simp), List.drop_length]
      rfl
theorem f0_eq (l : List Df) (L : Int) (h : validB L l = true) : f0 l L = outP (rturnedL L l) := by
  have hl := valid_len h
  exact loop l L h 100000 0 [] (by omega) (by omega) (by simp)
theorem ok : CtxOk Tryd.prog X := ctxOk tab (by
  intro p hp
  simp only [List.mem_cons, List.not_mem_nil, or_false] at hp
  rcases hp with rfl
  · exact rput.spOk)
theorem okM : MOk Tryd.prog X := fun g sp h => by cases h
theorem spec (l : List Df) (L : Int) (h : (validB L l) = true) : CallSpec Tryd.prog E 30 [(.lst .df l), (.int .i64 L)] (.lst .df (rturnedL L l)) [] :=
  runFn_sound ok okM Tryd.call30 Tryd.func30 (by kernel_rfl) (by kernel_rfl) (by kernel_rfl) (by show 2 ≤ 30; decide) (by decide) (by rfl) ((run l L).trans (f0_eq l L h))
noncomputable def sp : Sp U El := fun args k => match args with
  | [.lst .df l, .int .i64 L] => chk (validB L l) (k (.lst .df (rturnedL L l)) [])
  | _ => none
theorem spOk : SpOk Tryd.prog E 30 sp where
  det := fun vs => by
    unfold sp
    split
    · rename_i l L
      cases hb : (validB L l)
      · exact ⟨none, fun _ => rfl⟩
      · exact ⟨some (_, _), fun _ => rfl⟩
    · exact ⟨none, fun _ => rfl⟩
  ok := fun vs k r h => by
    unfold sp at h
    split at h
    · obtain ⟨h1, h2⟩ := chk_some h
      exact ⟨_, _, spec _ _ h1, h2⟩
    · cases h
end rturned
end Go.Proofs.YtnhmhcobpbilhaaDoor
