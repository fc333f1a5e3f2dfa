/- The law InspectionPlaces: its run. -/
import Derived.Test.YtnhmhcobpbilhaaDoorVT
namespace Go.Proofs.YtnhmhcobpbilhaaDoor
set_option linter.unusedSectionVars false
set_option linter.unusedSimpArgs false
set_option linter.unusedVariables false
set_option maxRecDepth 100000

noncomputable def eqL : List (Int × Int) → List (Int × Int) → Bool
  | [], [] => true
  | x :: a, y :: b => ((x.1 == y.1) && ((x.2 == y.2) && true)) && eqL a b
  | _, _ => false
noncomputable def eqP (a b : List (Int × Int)) : Bool := bif (Int.ofNat a.length) != (Int.ofNat b.length) then false else eqL a b
theorem eqL_same : ∀ a, eqL a a = true := by
  intro a
  induction a with
  | nil => rfl
  | cons x a ih => simp [eqL, ih]
theorem eqP_same (a : List (Int × Int)) : eqP a a = true := by
  unfold eqP
  rw [bne_self_eq_false]
  exact eqL_same a
theorem mrun_len (t : Int) (b : List Df) : ∀ (a : List Df) (i : Nat) (used : List Bool) (out : List (Int × Int)), (mrun t b i a used out).length ≤ out.length + a.length := by
  intro a
  induction a with
  | nil => intro i used out; simp [mrun]
  | cons x a ih =>
    intro i used out
    simp only [mrun]
    split
    · have := ih (i + 1) (used.set ‹Nat› true) (out ++ [((i : Int), ((‹Nat› : Nat) : Int))])
      simp only [List.length_append, List.length_cons, List.length_nil] at this ⊢
      omega
    · have := ih (i + 1) used out
      simp only [List.length_cons]
      omega

namespace equalP
noncomputable def bd : Code := (Tryd.f25.body).getD .skip
noncomputable def X : Ctx U El := ⟨E, tds, zeros, eqs, specOf [], 100000, 26, fun _ => none⟩
noncomputable def nmR : Norm U := ⟨[], [4], []⟩
noncomputable def RR : Kont U El := fun st => normK nmR st (retFin [4] [])
noncomputable def nm1 : Norm U := ⟨[], [], []⟩
noncomputable def nm2 : Norm U := ⟨[], [0, 1, 12, 13], []⟩
noncomputable def fr0 (a : List (Int × Int)) (b : List (Int × Int)) : St U El := ⟨[(0, (.lst .pair a)), (1, (.lst .pair b))], []⟩
noncomputable def fr1 : St U El := ⟨[], []⟩
noncomputable def fr2 (s10 : List (Int × Int)) (s21 : List (Int × Int)) (x12 : Int) (x13 : Int) : St U El := ⟨[(0, (.lst .pair s10)), (1, (.lst .pair s21)), (12, (.int .i64 x12)), (13, (.int .i64 x13))], []⟩
noncomputable def sh0 (a : List (Int × Int)) (b : List (Int × Int)) (k2 : (List (Int × Int)) → (List (Int × Int)) → Int → Int → R) : R :=
  condB ((Int.ofNat (List.length a)) != (Int.ofNat (List.length b))) (some ((.bool false), [])) (k2 a b (Int.ofNat (List.length a)) (0 : Int))
noncomputable def sh1 : R :=
  some ((.bool true), [])
noncomputable def sh2 (s10 : List (Int × Int)) (s21 : List (Int × Int)) (x12 : Int) (x13 : Int) (k1 : R) (k2 : (List (Int × Int)) → (List (Int × Int)) → Int → Int → R) : R :=
  condB (ilt x13 x12) (chk (inb x13 (List.length s10)) (chk (inb x13 (List.length s21)) (condB (!(((List.getD s10 (Int.toNat x13) d_pair).1 == (List.getD s21 (Int.toNat x13) d_pair).1) && (((List.getD s10 (Int.toNat x13) d_pair).2 == (List.getD s21 (Int.toNat x13) d_pair).2) && true))) (some ((.bool false), [])) (k2 s10 s21 x12 (IntKind.wrap .i64 (x13 + (1 : Int))))))) (k1)
noncomputable def it2 (Kb1 : Kont U El) (n : Nat) : Kont U El := iter nm2 (fun st' K' => exec X (cdp [1, 1, 0, 1, 0, 0] bd) .d st' K' (Eblk 0 (cutK nm1 Kb1) (fun _ _ => none)) RR) n
noncomputable def ct1 : Kont U El := fun st => exec X (cdp [1, 1, 1] bd) .d st RR (fun _ _ => none) RR
theorem P0 (a : List (Int × Int)) (b : List (Int × Int)) : exec X (cdp [] bd) (.seq none .d (.seq none .d (.seq (some nm1) (.seq none .d (.block (.loop nm2 .d))) .d))) (fr0 a b) RR (fun _ _ => none) RR = sh0 a b (fun y0 y1 y2 y3 => (hid (it2 (hid ct1) 100000)) (fr2 y0 y1 y2 y3)) := by kernel_rfl
theorem P1 : exec X (cdp [1, 1, 1] bd) .d (fr1) RR (fun _ _ => none) RR = sh1 := by kernel_rfl
theorem P2 (s10 : List (Int × Int)) (s21 : List (Int × Int)) (x12 : Int) (x13 : Int) (Kb1 : Kont U El) (Kb2 : Kont U El) : exec X (cdp [1, 1, 0, 1, 0, 0] bd) .d (fr2 s10 s21 x12 x13) (cutK nm2 Kb2) (Eblk 0 (cutK nm1 Kb1) (fun _ _ => none)) RR = sh2 s10 s21 x12 x13 (Kb1 (fr1)) (fun y0 y1 y2 y3 => Kb2 (fr2 y0 y1 y2 y3)) := by kernel_rfl
noncomputable def f1 : R := sh1
noncomputable def f2 : Nat → (List (Int × Int)) → (List (Int × Int)) → Int → Int → R
  | 0 => fun _ _ _ _ => none
  | n + 1 => fun s10 s21 x12 x13 => sh2 s10 s21 x12 x13 f1 (f2 n)
noncomputable def f0 (a : List (Int × Int)) (b : List (Int × Int)) : R := sh0 a b (f2 100000)
theorem T1 : (hid ct1) (fr1) = f1 := by
  refine (congrFun (hid_eq _) _).trans <| (P1).trans ?_
  show _ = sh1
  rfl
theorem T2 : ∀ (n : Nat), ∀ s10 s21 x12 x13, it2 (hid ct1) n (fr2 s10 s21 x12 x13) = f2 n s10 s21 x12 x13 := by
  intro n
  induction n with
  | zero => intros; rfl
  | succ n ih =>
    intro s10 s21 x12 x13
    refine (P2 s10 s21 x12 x13 (hid ct1) (it2 (hid ct1) n)).trans ?_
    show _ = sh2 s10 s21 x12 x13 f1 (f2 n)
    simp only [T1, ih]
theorem H2 (s10 : List (Int × Int)) (s21 : List (Int × Int)) (x12 : Int) (x13 : Int) : hid (it2 (hid ct1) 100000) (fr2 s10 s21 x12 x13) = f2 100000 s10 s21 x12 x13 := (congrFun (hid_eq _) _).trans (T2 100000 s10 s21 x12 x13)
theorem T0 (a : List (Int × Int)) (b : List (Int × Int)) : exec X bd (.seq none .d (.seq none .d (.seq (some nm1) (.seq none .d (.block (.loop nm2 .d))) .d))) (fr0 a b) RR (fun _ _ => none) RR = f0 a b := by
  refine (P0 a b).trans ?_
  show _ = sh0 a b (f2 100000)
  simp only [H2]
theorem run (a : List (Int × Int)) (b : List (Int × Int)) : runFn X bd (.seq none .d (.seq none .d (.seq (some nm1) (.seq none .d (.block (.loop nm2 .d))) .d))) nmR [4] [] [(.lst .pair a), (.lst .pair b)] = f0 a b := T0 a b
theorem loop (a b : List (Int × Int)) (hl : a.length ≤ 2000) (he : a.length = b.length) : ∀ (n i : Nat), a.length < n + i → i ≤ a.length → f2 n a b (Int.ofNat a.length) (i : Int) = some (.bool (eqL (a.drop i) (b.drop i)), []) := by
  intro n
  induction n with
  | zero => intro i h1 h2; omega
  | succ n ih =>
    intro i h1 h2
    show sh2 a b (Int.ofNat a.length) i f1 (f2 n) = _
    unfold sh2
    by_cases hi : i < a.length
    · have hi' : i < b.length := by omega
      rw [iltT (by simp; omega), inbT hi, inbT hi', toNat_nat, getD_lt hi, getD_lt hi', drop_lt hi, drop_lt hi', wrapS i (by omega)]
      simp only [eqL]
      cases (a[i].1 == b[i].1) && ((a[i].2 == b[i].2) && true)
      · rfl
      · exact ih (i + 1) (by omega) (by omega)
    · have : i = a.length := by omega
      subst this
      rw [iltF (by simp), List.drop_length, he, List.drop_length]
      rfl
theorem f0_eq (a b : List (Int × Int)) (h : nle (List.length a) 2000 = true) : f0 a b = some (.bool (eqP a b), []) := by
  have hl : a.length ≤ 2000 := of_decide_eq_true h
  unfold f0 sh0 eqP
  cases hb : (Int.ofNat a.length) != (Int.ofNat b.length)
  · have he : a.length = b.length := by
      have : (Int.ofNat a.length) = (Int.ofNat b.length) := by simpa using hb
      exact Int.ofNat.inj this
    exact loop a b hl he 100000 0 (by omega) (by omega)
  · rfl
theorem ok : CtxOk Tryd.prog X := ctxOk tab (by
  intro p hp
  cases hp)
theorem okM : MOk Tryd.prog X := fun g sp h => by cases h
theorem spec (a : List (Int × Int)) (b : List (Int × Int)) (h : (nle (List.length a) 2000) = true) : CallSpec Tryd.prog E 25 [(.lst .pair a), (.lst .pair b)] (.bool (eqP a b)) [] :=
  runFn_sound ok okM Tryd.call25 Tryd.func25 (by kernel_rfl) (by kernel_rfl) (by kernel_rfl) (by show 2 ≤ 26; decide) (by decide) (by rfl) ((run a b).trans (f0_eq a b h))
noncomputable def sp : Sp U El := fun args k => match args with
  | [.lst .pair a, .lst .pair b] => chk (nle (List.length a) 2000) (k (.bool (eqP a b)) [])
  | _ => none
theorem spOk : SpOk Tryd.prog E 25 sp where
  det := fun vs => by
    unfold sp
    split
    · rename_i a b
      cases hb : (nle (List.length a) 2000)
      · exact ⟨none, fun _ => rfl⟩
      · exact ⟨some (_, _), fun _ => rfl⟩
    · exact ⟨none, fun _ => rfl⟩
  ok := fun vs k r h => by
    unfold sp at h
    split at h
    · obtain ⟨h1, h2⟩ := chk_some h
      exact ⟨_, _, spec _ _ h1, h2⟩
    · cases h
end equalP

namespace lawPlaces
noncomputable def bd : Code := (Tryd.f7.body).getD .skip
noncomputable def X : Ctx U El := ⟨E, tds, zeros, eqs, specOf [(10, awake.sp), (11, few.sp), (14, rvalid.sp), (17, worst.sp), (19, matchF.sp), (24, rworst.sp), (25, equalP.sp), (26, rmatch.sp)], 100000, 133, fun _ => none⟩
noncomputable def nmR : Norm U := ⟨[], [10], []⟩
noncomputable def RR : Kont U El := fun st => normK nmR st (retFin [10] [])
noncomputable def nm1 : Norm U := ⟨[], [0, 1, 2, 3, 4], []⟩
noncomputable def nm2 : Norm U := ⟨[(14, .pair)], [0, 1, 4, 14, 15], [14]⟩
noncomputable def nm3 : Norm U := ⟨[(14, .pair)], [0, 1, 4, 14, 15], [14]⟩
noncomputable def nm4 : Norm U := ⟨[(14, .pair)], [0, 1, 4, 14, 15], [14]⟩
noncomputable def fr0 (a : List Df) (b : List Df) (L : Int) (w : Int) (t : Int) : St U El := ⟨[(0, (.lst .df a)), (1, (.lst .df b)), (2, (.int .i64 L)), (3, (.int .i64 w)), (4, (.int .i64 t))], []⟩
noncomputable def fr1 (a0 : List Df) (b1 : List Df) (length2 : Int) (window3 : Int) (tolerance4 : Int) : St U El := ⟨[(0, (.lst .df a0)), (1, (.lst .df b1)), (2, (.int .i64 length2)), (3, (.int .i64 window3)), (4, (.int .i64 tolerance4))], []⟩
noncomputable def fr2 (a0 : List Df) (b1 : List Df) (tolerance4 : Int) (m14 : List (Int × Int)) (f15 : Int) : St U El := ⟨[(0, (.lst .df a0)), (1, (.lst .df b1)), (4, (.int .i64 tolerance4)), (14, (.ful 14)), (15, (.int .i64 f15))], [(14, (.rows .pair m14))]⟩
noncomputable def fr3 (a0 : List Df) (b1 : List Df) (tolerance4 : Int) (m14 : List (Int × Int)) (f15 : Int) : St U El := ⟨[(0, (.lst .df a0)), (1, (.lst .df b1)), (4, (.int .i64 tolerance4)), (14, (.ful 14)), (15, (.int .i64 f15))], [(14, (.rows .pair m14))]⟩
noncomputable def fr4 (a0 : List Df) (b1 : List Df) (tolerance4 : Int) (m14 : List (Int × Int)) (f15 : Int) : St U El := ⟨[(0, (.lst .df a0)), (1, (.lst .df b1)), (4, (.int .i64 tolerance4)), (14, (.ful 14)), (15, (.int .i64 f15))], [(14, (.rows .pair m14))]⟩
noncomputable def sh0 (a : List Df) (b : List Df) (L : Int) (w : Int) (t : Int) (k1 : (List Df) → (List Df) → Int → Int → Int → R) : R :=
  condB (!(true)) (some ((.bool false), [])) (condB (!(fewB a)) (some ((.bool true), [])) (condB (!(fewB b)) (some ((.bool true), [])) (k1 a b L w t)))
noncomputable def sh1 (a0 : List Df) (b1 : List Df) (length2 : Int) (window3 : Int) (tolerance4 : Int) (k2 : (List Df) → (List Df) → Int → (List (Int × Int)) → Int → R) : R :=
  condB (!(validB length2 a0)) (condB ((wor1 length2 window3 a0) != (0 : Int)) (some ((.bool false), [])) (condB ((wor2 length2 window3 a0) != (0 : Int)) (some ((.bool false), [])) (condB ((worE length2 window3 a0) != (1 : Int)) (some ((.bool false), [])) (k2 a0 b1 tolerance4 (matchL tolerance4 a0 b1) (matchE tolerance4 a0 b1))))) (condB (ilt window3 (0 : Int)) (condB ((wor1 length2 window3 a0) != (0 : Int)) (some ((.bool false), [])) (condB ((wor2 length2 window3 a0) != (0 : Int)) (some ((.bool false), [])) (condB ((worE length2 window3 a0) != (2 : Int)) (some ((.bool false), [])) (k2 a0 b1 tolerance4 (matchL tolerance4 a0 b1) (matchE tolerance4 a0 b1))))) (condB (ilt length2 window3) (condB ((wor1 length2 window3 a0) != (0 : Int)) (some ((.bool false), [])) (condB ((wor2 length2 window3 a0) != (0 : Int)) (some ((.bool false), [])) (condB ((worE length2 window3 a0) != (2 : Int)) (some ((.bool false), [])) (k2 a0 b1 tolerance4 (matchL tolerance4 a0 b1) (matchE tolerance4 a0 b1))))) (chk ((okW a0 && (pos16 length2 && (ile 0 window3 && ile window3 length2)))) (condB ((wor1 length2 window3 a0) != (rwor1 length2 window3 a0)) (some ((.bool false), [])) (condB ((wor2 length2 window3 a0) != (rwor2 length2 window3 a0)) (some ((.bool false), [])) (condB ((worE length2 window3 a0) != (0 : Int)) (some ((.bool false), [])) (k2 a0 b1 tolerance4 (matchL tolerance4 a0 b1) (matchE tolerance4 a0 b1))))))))
noncomputable def sh2 (a0 : List Df) (b1 : List Df) (tolerance4 : Int) (m14 : List (Int × Int)) (f15 : Int) (k3 : (List Df) → (List Df) → Int → (List (Int × Int)) → Int → R) : R :=
  condB (!(validB (16777216 : Int) a0)) (condB ((Int.ofNat (List.length m14)) == (0 : Int)) (some ((.bool (f15 == (1 : Int))), [])) (some ((.bool false), []))) (condB (!(validB (16777216 : Int) b1)) (condB ((Int.ofNat (List.length m14)) == (0 : Int)) (some ((.bool (f15 == (1 : Int))), [])) (some ((.bool false), []))) (k3 a0 b1 tolerance4 m14 f15))
noncomputable def sh3 (a0 : List Df) (b1 : List Df) (tolerance4 : Int) (m14 : List (Int × Int)) (f15 : Int) (k4 : (List Df) → (List Df) → Int → (List (Int × Int)) → Int → R) : R :=
  condB (ilt tolerance4 (0 : Int)) (condB ((Int.ofNat (List.length m14)) == (0 : Int)) (some ((.bool (f15 == (2 : Int))), [])) (some ((.bool false), []))) (condB (ilt (16777216 : Int) tolerance4) (condB ((Int.ofNat (List.length m14)) == (0 : Int)) (some ((.bool (f15 == (2 : Int))), [])) (some ((.bool false), []))) (k4 a0 b1 tolerance4 m14 f15))
noncomputable def sh4 (a0 : List Df) (b1 : List Df) (tolerance4 : Int) (m14 : List (Int × Int)) (f15 : Int) : R :=
  chk ((okW a0 && okW b1)) (chk (nle (List.length m14) 2000) (condB (eqP m14 (mrun tolerance4 b1 0 a0 (List.replicate (List.length b1) false) [])) (some ((.bool (f15 == (0 : Int))), [])) (some ((.bool false), []))))
noncomputable def ct1 : Kont U El := fun st => exec X (cdp [1, 1, 1] bd) (.seq none .d (.seq none .d (.seq (some nm2) .d (.seq (some nm3) .d (.seq (some nm4) .d .d))))) st RR (fun _ _ => none) RR
noncomputable def ct2 : Kont U El := fun st => exec X (cdp [1, 1, 1, 1, 1, 1] bd) (.seq (some nm3) .d (.seq (some nm4) .d .d)) st RR (fun _ _ => none) RR
noncomputable def ct3 : Kont U El := fun st => exec X (cdp [1, 1, 1, 1, 1, 1, 1] bd) (.seq (some nm4) .d .d) st RR (fun _ _ => none) RR
noncomputable def ct4 : Kont U El := fun st => exec X (cdp [1, 1, 1, 1, 1, 1, 1, 1] bd) .d st RR (fun _ _ => none) RR
theorem P0 (a : List Df) (b : List Df) (L : Int) (w : Int) (t : Int) : exec X (cdp [] bd) (.seq none .d (.seq none .d (.seq (some nm1) .d (.seq none .d (.seq none .d (.seq (some nm2) .d (.seq (some nm3) .d (.seq (some nm4) .d .d)))))))) (fr0 a b L w t) RR (fun _ _ => none) RR = sh0 a b L w t (fun y0 y1 y2 y3 y4 => (hid ct1) (fr1 y0 y1 y2 y3 y4)) := by kernel_rfl
theorem P1 (a0 : List Df) (b1 : List Df) (length2 : Int) (window3 : Int) (tolerance4 : Int) : exec X (cdp [1, 1, 1] bd) (.seq none .d (.seq none .d (.seq (some nm2) .d (.seq (some nm3) .d (.seq (some nm4) .d .d))))) (fr1 a0 b1 length2 window3 tolerance4) RR (fun _ _ => none) RR = sh1 a0 b1 length2 window3 tolerance4 (fun y0 y1 y2 y3 y4 => (hid ct2) (fr2 y0 y1 y2 y3 y4)) := by kernel_rfl
theorem P2 (a0 : List Df) (b1 : List Df) (tolerance4 : Int) (m14 : List (Int × Int)) (f15 : Int) : exec X (cdp [1, 1, 1, 1, 1, 1] bd) (.seq (some nm3) .d (.seq (some nm4) .d .d)) (fr2 a0 b1 tolerance4 m14 f15) RR (fun _ _ => none) RR = sh2 a0 b1 tolerance4 m14 f15 (fun y0 y1 y2 y3 y4 => (hid ct3) (fr3 y0 y1 y2 y3 y4)) := by kernel_rfl
theorem P3 (a0 : List Df) (b1 : List Df) (tolerance4 : Int) (m14 : List (Int × Int)) (f15 : Int) : exec X (cdp [1, 1, 1, 1, 1, 1, 1] bd) (.seq (some nm4) .d .d) (fr3 a0 b1 tolerance4 m14 f15) RR (fun _ _ => none) RR = sh3 a0 b1 tolerance4 m14 f15 (fun y0 y1 y2 y3 y4 => (hid ct4) (fr4 y0 y1 y2 y3 y4)) := by kernel_rfl
theorem P4 (a0 : List Df) (b1 : List Df) (tolerance4 : Int) (m14 : List (Int × Int)) (f15 : Int) : exec X (cdp [1, 1, 1, 1, 1, 1, 1, 1] bd) .d (fr4 a0 b1 tolerance4 m14 f15) RR (fun _ _ => none) RR = sh4 a0 b1 tolerance4 m14 f15 := by kernel_rfl
noncomputable def f4 (a0 : List Df) (b1 : List Df) (tolerance4 : Int) (m14 : List (Int × Int)) (f15 : Int) : R := sh4 a0 b1 tolerance4 m14 f15
noncomputable def f3 (a0 : List Df) (b1 : List Df) (tolerance4 : Int) (m14 : List (Int × Int)) (f15 : Int) : R := sh3 a0 b1 tolerance4 m14 f15 f4
noncomputable def f2 (a0 : List Df) (b1 : List Df) (tolerance4 : Int) (m14 : List (Int × Int)) (f15 : Int) : R := sh2 a0 b1 tolerance4 m14 f15 f3
noncomputable def f1 (a0 : List Df) (b1 : List Df) (length2 : Int) (window3 : Int) (tolerance4 : Int) : R := sh1 a0 b1 length2 window3 tolerance4 f2
noncomputable def f0 (a : List Df) (b : List Df) (L : Int) (w : Int) (t : Int) : R := sh0 a b L w t f1
theorem T4 (a0 : List Df) (b1 : List Df) (tolerance4 : Int) (m14 : List (Int × Int)) (f15 : Int) : (hid ct4) (fr4 a0 b1 tolerance4 m14 f15) = f4 a0 b1 tolerance4 m14 f15 := by
  refine (congrFun (hid_eq _) _).trans <| (P4 a0 b1 tolerance4 m14 f15).trans ?_
  show _ = sh4 a0 b1 tolerance4 m14 f15
  rfl
theorem T3 (a0 : List Df) (b1 : List Df) (tolerance4 : Int) (m14 : List (Int × Int)) (f15 : Int) : (hid ct3) (fr3 a0 b1 tolerance4 m14 f15) = f3 a0 b1 tolerance4 m14 f15 := by
  refine (congrFun (hid_eq _) _).trans <| (P3 a0 b1 tolerance4 m14 f15).trans ?_
  show _ = sh3 a0 b1 tolerance4 m14 f15 f4
  simp only [T4]
theorem T2 (a0 : List Df) (b1 : List Df) (tolerance4 : Int) (m14 : List (Int × Int)) (f15 : Int) : (hid ct2) (fr2 a0 b1 tolerance4 m14 f15) = f2 a0 b1 tolerance4 m14 f15 := by
  refine (congrFun (hid_eq _) _).trans <| (P2 a0 b1 tolerance4 m14 f15).trans ?_
  show _ = sh2 a0 b1 tolerance4 m14 f15 f3
  simp only [T3]
theorem T1 (a0 : List Df) (b1 : List Df) (length2 : Int) (window3 : Int) (tolerance4 : Int) : (hid ct1) (fr1 a0 b1 length2 window3 tolerance4) = f1 a0 b1 length2 window3 tolerance4 := by
  refine (congrFun (hid_eq _) _).trans <| (P1 a0 b1 length2 window3 tolerance4).trans ?_
  show _ = sh1 a0 b1 length2 window3 tolerance4 f2
  simp only [T2]
theorem T0 (a : List Df) (b : List Df) (L : Int) (w : Int) (t : Int) : exec X bd (.seq none .d (.seq none .d (.seq (some nm1) .d (.seq none .d (.seq none .d (.seq (some nm2) .d (.seq (some nm3) .d (.seq (some nm4) .d .d)))))))) (fr0 a b L w t) RR (fun _ _ => none) RR = f0 a b L w t := by
  refine (P0 a b L w t).trans ?_
  show _ = sh0 a b L w t f1
  simp only [T1]
theorem run (a : List Df) (b : List Df) (L : Int) (w : Int) (t : Int) : runFn X bd (.seq none .d (.seq none .d (.seq (some nm1) .d (.seq none .d (.seq none .d (.seq (some nm2) .d (.seq (some nm3) .d (.seq (some nm4) .d .d)))))))) nmR [10] [] [(.lst .df a), (.lst .df b), (.int .i64 L), (.int .i64 w), (.int .i64 t)] = f0 a b L w t := T0 a b L w t
theorem f0_eq (a b : List Df) (L w t : Int) : f0 a b L w t = some (.bool true, []) := by
  unfold f0 sh0
  simp only [Bool.not_true, condB, cond_false]
  cases fewB a
  · rfl
  cases fewB b
  · rfl
  simp only [Bool.not_true, cond_false]
  have k2 : f2 a b t (matchL t a b) (matchE t a b) = some (.bool true, []) := by
    unfold f2 sh2
    cases ha : validB 16777216 a
    · have e1 : matchL t a b = [] := by unfold matchL; rw [ha]; rfl
      have e2 : matchE t a b = 1 := by unfold matchE; rw [ha]; rfl
      rw [e1, e2]; rfl
    cases hb : validB 16777216 b
    · have e1 : matchL t a b = [] := by unfold matchL; rw [ha, hb]; rfl
      have e2 : matchE t a b = 1 := by unfold matchE; rw [ha, hb]; rfl
      rw [e1, e2]; rfl
    show f3 a b t (matchL t a b) (matchE t a b) = _
    unfold f3 sh3
    by_cases h1 : t < 0
    · have e1 : matchL t a b = [] := by unfold matchL; rw [ha, hb, ileF (show ¬ 0 ≤ t by omega)]; rfl
      have e2 : matchE t a b = 2 := by unfold matchE; rw [ha, hb, ileF (show ¬ 0 ≤ t by omega)]; rfl
      rw [e1, e2, iltT h1]; rfl
    by_cases h2 : 16777216 < t
    · have e1 : matchL t a b = [] := by unfold matchL; rw [ha, hb, ileT (show 0 ≤ t by omega), ileF (show ¬ t ≤ 16777216 by omega)]; rfl
      have e2 : matchE t a b = 2 := by unfold matchE; rw [ha, hb, ileT (show 0 ≤ t by omega), ileF (show ¬ t ≤ 16777216 by omega)]; rfl
      rw [e1, e2, iltF h1, iltT h2]; rfl
    have e1 : matchL t a b = mrun t b 0 a (List.replicate b.length false) [] := by unfold matchL; rw [ha, hb, ileT (show 0 ≤ t by omega), ileT (show t ≤ 16777216 by omega)]; rfl
    have e2 : matchE t a b = 0 := by unfold matchE; rw [ha, hb, ileT (show 0 ≤ t by omega), ileT (show t ≤ 16777216 by omega)]; rfl
    rw [iltF h1, iltF h2]
    show f4 a b t (matchL t a b) (matchE t a b) = _
    unfold f4 sh4
    have hl := valid_len ha
    have hm := mrun_len t b a 0 (List.replicate b.length false) []
    simp only [List.length_nil, Nat.zero_add] at hm
    rw [e1, e2, (valid_okW ha).1, (valid_okW hb).1, nleT (by omega), eqP_same]
    rfl
  show f1 a b L w t = _
  unfold f1 sh1
  cases hv : validB L a
  · have e0 : goW L w a = false := by unfold goW; rw [hv]; rfl
    have e1 : wor1 L w a = 0 := by unfold wor1; rw [e0]; rfl
    have e2 : wor2 L w a = 0 := by unfold wor2; rw [e0]; rfl
    have e3 : worE L w a = 1 := by unfold worE; rw [hv]; rfl
    rw [e1, e2, e3]
    exact k2
  by_cases h1 : w < 0
  · have e0 : goW L w a = false := by unfold goW; rw [hv, ileF (show ¬ 0 ≤ w by omega)]; rfl
    have e1 : wor1 L w a = 0 := by unfold wor1; rw [e0]; rfl
    have e2 : wor2 L w a = 0 := by unfold wor2; rw [e0]; rfl
    have e3 : worE L w a = 2 := by unfold worE; rw [hv, ileF (show ¬ 0 ≤ w by omega)]; rfl
    rw [e1, e2, e3, iltT h1]
    exact k2
  by_cases h2 : L < w
  · have e0 : goW L w a = false := by unfold goW; rw [hv, ileT (show 0 ≤ w by omega), ileF (show ¬ w ≤ L by omega)]; rfl
    have e1 : wor1 L w a = 0 := by unfold wor1; rw [e0]; rfl
    have e2 : wor2 L w a = 0 := by unfold wor2; rw [e0]; rfl
    have e3 : worE L w a = 2 := by unfold worE; rw [hv, ileT (show 0 ≤ w by omega), ileF (show ¬ w ≤ L by omega)]; rfl
    rw [e1, e2, e3, iltF h1, iltT h2]
    exact k2
  have e0 : goW L w a = true := by unfold goW; rw [hv, ileT (show 0 ≤ w by omega), ileT (show w ≤ L by omega)]; rfl
  have er := rwor_eq e0
  have e1 : wor1 L w a = rwor1 L w a := by unfold wor1 rwor1; rw [e0, er]; rfl
  have e2 : wor2 L w a = rwor2 L w a := by unfold wor2 rwor2; rw [e0, er]; rfl
  have e3 : worE L w a = 0 := by unfold worE; rw [hv, ileT (show 0 ≤ w by omega), ileT (show w ≤ L by omega)]; rfl
  rw [iltF h1, iltF h2, (valid_okW hv).1, (valid_okW hv).2, ileT (show 0 ≤ w by omega), ileT (show w ≤ L by omega), e1, e2, e3, bne_self_eq_false, bne_self_eq_false]
  exact k2
theorem ok : CtxOk Tryd.prog X := ctxOk tab (by
  intro p hp
  simp only [List.mem_cons, List.not_mem_nil, or_false] at hp
  rcases hp with rfl | rfl | rfl | rfl | rfl | rfl | rfl | rfl
  · exact awake.spOk
  · exact few.spOk
  · exact rvalid.spOk
  · exact worst.spOk
  · exact matchF.spOk
  · exact rworst.spOk
  · exact equalP.spOk
  · exact rmatch.spOk)
theorem okM : MOk Tryd.prog X := fun g sp h => by cases h
theorem spec (a : List Df) (b : List Df) (L : Int) (w : Int) (t : Int) : CallSpec Tryd.prog E 7 [(.lst .df a), (.lst .df b), (.int .i64 L), (.int .i64 w), (.int .i64 t)] (.bool (true)) [] :=
  runFn_sound ok okM Tryd.call7 Tryd.func7 (by kernel_rfl) (by kernel_rfl) (by kernel_rfl) (by show 5 ≤ 133; decide) (by decide) (by rfl) ((run a b L w t).trans (f0_eq a b L w t))
noncomputable def sp : Sp U El := fun args k => match args with
  | [.lst .df a, .lst .df b, .int .i64 L, .int .i64 w, .int .i64 t] => k (.bool (true)) []
  | _ => none
theorem spOk : SpOk Tryd.prog E 7 sp where
  det := fun vs => by
    unfold sp
    split
    · exact ⟨some (_, _), fun _ => rfl⟩
    · exact ⟨none, fun _ => rfl⟩
  ok := fun vs k r h => by
    unfold sp at h
    split at h
    · exact ⟨_, _, spec _ _ _ _ _, h⟩
    · cases h
end lawPlaces
end Go.Proofs.YtnhmhcobpbilhaaDoor
