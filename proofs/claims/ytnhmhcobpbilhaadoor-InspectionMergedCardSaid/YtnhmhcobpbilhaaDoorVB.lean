/- Compare, the orders of defects, Right, Valid. -/
import Derived.Test.YtnhmhcobpbilhaaDoorVA
import Derived.IntWalk
namespace Go.Proofs.YtnhmhcobpbilhaaDoor
set_option linter.unusedSectionVars false
set_option linter.unusedSimpArgs false
set_option linter.unusedVariables false
set_option maxRecDepth 100000

theorem wrapI {x : Int} (h1 : -9223372036854775808 ≤ x) (h2 : x ≤ 9223372036854775807) : IntKind.wrap .i64 x = x := IntWalk.i64_in _ ⟨h1, h2⟩
theorem getD_lt {α : Type} {l : List α} {i : Nat} (h : i < l.length) (d : α) : List.getD l i d = l[i] := by simp [List.getD, List.getElem?_eq_getElem h]
theorem toNat_nat (n : Nat) : Int.toNat (n : Int) = n := rfl
theorem inbT {i n : Nat} (h : i < n) : inb (i : Int) n = true := by
  simp only [inb, ile, ilt, Bool.and_eq_true, decide_eq_true_eq]; omega
theorem iltT {a b : Int} (h : a < b) : ilt a b = true := decide_eq_true h
theorem iltF {a b : Int} (h : ¬ a < b) : ilt a b = false := decide_eq_false h
theorem ileT {a b : Int} (h : a ≤ b) : ile a b = true := decide_eq_true h
theorem ileF {a b : Int} (h : ¬ a ≤ b) : ile a b = false := decide_eq_false h
theorem nleT {a b : Nat} (h : a ≤ b) : nle a b = true := decide_eq_true h

noncomputable def orZ : List Int → Int
  | [] => 0
  | x :: l => bif x != 0 then x else orZ l
noncomputable def cmpZ (a b : Int) : Int := bif ilt a b then -1 else bif ilt b a then 1 else 0
noncomputable def cmpS (a b : List UInt8) : Int := bif slt a b then -1 else bif !(slt a b || (a == b)) then 1 else 0
noncomputable def compareZ (d e : Df) : Int := orZ [cmpZ d.a e.a, cmpS d.c e.c, cmpZ d.l e.l, cmpZ d.s e.s]

namespace nanInt
noncomputable def bd : Code := (Tryd.f66.body).getD .skip
noncomputable def X : Ctx U El := ⟨E, tds, zeros, eqs, specOf [], 100000, 6, fun _ => none⟩
noncomputable def nmR : Norm U := ⟨[], [2], [], [], [], []⟩
noncomputable def RR : Kont U El := fun st => normK nmR st (retFin [2] [])
noncomputable def fr0 (a : Int) : St U El := ⟨[(0, (.int .i64 a))], []⟩
noncomputable def sh0 (a : Int) : R :=
  some ((.bool (a != a)), [])
theorem P0 (a : Int) : exec X (cdp [] bd) .d (fr0 a) RR (fun _ _ => none) RR = sh0 a := by kernel_rfl
noncomputable def f0 (a : Int) : R := sh0 a
theorem T0 (a : Int) : exec X bd .d (fr0 a) RR (fun _ _ => none) RR = f0 a := by
  refine (P0 a).trans ?_
  show _ = sh0 a
  rfl
theorem run (a : Int) : runFn X bd .d nmR [2] [] [(.int .i64 a)] = f0 a := T0 a
theorem f0_eq (a : Int) : f0 a = some (.bool false, []) := by
  unfold f0 sh0
  cases h : a != a
  · rfl
  · simp at h
theorem ok : CtxOk Tryd.prog X := ctxOk tab (by
  intro p hp
  cases hp)
theorem okM : MOk Tryd.prog X := fun g sp h => by cases h
theorem spec (a : Int) : CallSpec Tryd.prog E 66 [(.int .i64 a)] (.bool (false)) [] :=
  runFn_sound ok okM Tryd.call66 Tryd.func66 (by kernel_rfl) (by kernel_rfl) (by kernel_rfl) (by show 1 ≤ 6; decide) (by decide) (by rfl) ((run a).trans (f0_eq a))
noncomputable def sp : Sp U El := fun args k => match args with
  | [.int .i64 a] => k (.bool (false)) []
  | _ => none
theorem spOk : SpOk Tryd.prog E 66 sp where
  det := fun vs => by
    unfold sp
    split
    · exact ⟨some (_, _), fun _ => rfl⟩
    · exact ⟨none, fun _ => rfl⟩
  ok := fun vs k r h => by
    unfold sp at h
    split at h
    · exact ⟨_, _, spec _, h⟩
    · cases h
end nanInt
namespace nanStr
noncomputable def bd : Code := (Tryd.f67.body).getD .skip
noncomputable def X : Ctx U El := ⟨E, tds, zeros, eqs, specOf [], 100000, 6, fun _ => none⟩
noncomputable def nmR : Norm U := ⟨[], [2], [], [], [], []⟩
noncomputable def RR : Kont U El := fun st => normK nmR st (retFin [2] [])
noncomputable def fr0 (a : List UInt8) : St U El := ⟨[(0, (.str a))], []⟩
noncomputable def sh0 (a : List UInt8) : R :=
  some ((.bool (!(a == a))), [])
theorem P0 (a : List UInt8) : exec X (cdp [] bd) .d (fr0 a) RR (fun _ _ => none) RR = sh0 a := by kernel_rfl
noncomputable def f0 (a : List UInt8) : R := sh0 a
theorem T0 (a : List UInt8) : exec X bd .d (fr0 a) RR (fun _ _ => none) RR = f0 a := by
  refine (P0 a).trans ?_
  show _ = sh0 a
  rfl
theorem run (a : List UInt8) : runFn X bd .d nmR [2] [] [(.str a)] = f0 a := T0 a
theorem f0_eq (a : List UInt8) : f0 a = some (.bool false, []) := by
  unfold f0 sh0
  cases h : !(a == a)
  · rfl
  · simp at h
theorem ok : CtxOk Tryd.prog X := ctxOk tab (by
  intro p hp
  cases hp)
theorem okM : MOk Tryd.prog X := fun g sp h => by cases h
theorem spec (a : List UInt8) : CallSpec Tryd.prog E 67 [(.str a)] (.bool (false)) [] :=
  runFn_sound ok okM Tryd.call67 Tryd.func67 (by kernel_rfl) (by kernel_rfl) (by kernel_rfl) (by show 1 ≤ 6; decide) (by decide) (by rfl) ((run a).trans (f0_eq a))
noncomputable def sp : Sp U El := fun args k => match args with
  | [.str a] => k (.bool (false)) []
  | _ => none
theorem spOk : SpOk Tryd.prog E 67 sp where
  det := fun vs => by
    unfold sp
    split
    · exact ⟨some (_, _), fun _ => rfl⟩
    · exact ⟨none, fun _ => rfl⟩
  ok := fun vs k r h => by
    unfold sp at h
    split at h
    · exact ⟨_, _, spec _, h⟩
    · cases h
end nanStr
namespace cmpInt
noncomputable def bd : Code := (Tryd.f59.body).getD .skip
noncomputable def X : Ctx U El := ⟨E, tds, zeros, eqs, specOf [(66, nanInt.sp)], 100000, 20, fun _ => none⟩
noncomputable def nmR : Norm U := ⟨[], [4], [], [], [], []⟩
noncomputable def RR : Kont U El := fun st => normK nmR st (retFin [4] [])
noncomputable def fr0 (a : Int) (b : Int) : St U El := ⟨[(0, (.int .i64 a)), (1, (.int .i64 b))], []⟩
noncomputable def sh0 (a : Int) (b : Int) : R :=
  condB (false) (condB (false) (some ((.int .i64 (0 : Int)), [])) (some ((.int .i64 (-1 : Int)), []))) (condB (false) (some ((.int .i64 (1 : Int)), [])) (condB (ilt a b) (some ((.int .i64 (-1 : Int)), [])) (condB (ilt b a) (some ((.int .i64 (1 : Int)), [])) (some ((.int .i64 (0 : Int)), [])))))
theorem P0 (a : Int) (b : Int) : exec X (cdp [] bd) .d (fr0 a b) RR (fun _ _ => none) RR = sh0 a b := by kernel_rfl
noncomputable def f0 (a : Int) (b : Int) : R := sh0 a b
theorem T0 (a : Int) (b : Int) : exec X bd .d (fr0 a b) RR (fun _ _ => none) RR = f0 a b := by
  refine (P0 a b).trans ?_
  show _ = sh0 a b
  rfl
theorem run (a : Int) (b : Int) : runFn X bd .d nmR [4] [] [(.int .i64 a), (.int .i64 b)] = f0 a b := T0 a b
theorem f0_eq (a b : Int) : f0 a b = some (.int .i64 (cmpZ a b), []) := by
  unfold f0 sh0 cmpZ
  cases h1 : ilt a b <;> cases h2 : ilt b a <;> rfl
theorem ok : CtxOk Tryd.prog X := ctxOk tab (by
  intro p hp
  simp only [List.mem_cons, List.not_mem_nil, or_false] at hp
  rcases hp with rfl
  · exact nanInt.spOk)
theorem okM : MOk Tryd.prog X := fun g sp h => by cases h
theorem spec (a : Int) (b : Int) : CallSpec Tryd.prog E 59 [(.int .i64 a), (.int .i64 b)] (.int .i64 (cmpZ a b)) [] :=
  runFn_sound ok okM Tryd.call59 Tryd.func59 (by kernel_rfl) (by kernel_rfl) (by kernel_rfl) (by show 2 ≤ 20; decide) (by decide) (by rfl) ((run a b).trans (f0_eq a b))
noncomputable def sp : Sp U El := fun args k => match args with
  | [.int .i64 a, .int .i64 b] => k (.int .i64 (cmpZ a b)) []
  | _ => none
theorem spOk : SpOk Tryd.prog E 59 sp where
  det := fun vs => by
    unfold sp
    split
    · exact ⟨some (_, _), fun _ => rfl⟩
    · exact ⟨none, fun _ => rfl⟩
  ok := fun vs k r h => by
    unfold sp at h
    split at h
    · exact ⟨_, _, spec _ _, h⟩
    · cases h
end cmpInt
namespace cmpStr
noncomputable def bd : Code := (Tryd.f60.body).getD .skip
noncomputable def X : Ctx U El := ⟨E, tds, zeros, eqs, specOf [(67, nanStr.sp)], 100000, 20, fun _ => none⟩
noncomputable def nmR : Norm U := ⟨[], [4], [], [], [], []⟩
noncomputable def RR : Kont U El := fun st => normK nmR st (retFin [4] [])
noncomputable def fr0 (a : List UInt8) (b : List UInt8) : St U El := ⟨[(0, (.str a)), (1, (.str b))], []⟩
noncomputable def sh0 (a : List UInt8) (b : List UInt8) : R :=
  condB (false) (condB (false) (some ((.int .i64 (0 : Int)), [])) (some ((.int .i64 (-1 : Int)), []))) (condB (false) (some ((.int .i64 (1 : Int)), [])) (condB (slt a b) (some ((.int .i64 (-1 : Int)), [])) (condB (!(slt a b || (a == b))) (some ((.int .i64 (1 : Int)), [])) (some ((.int .i64 (0 : Int)), [])))))
theorem P0 (a : List UInt8) (b : List UInt8) : exec X (cdp [] bd) .d (fr0 a b) RR (fun _ _ => none) RR = sh0 a b := by kernel_rfl
noncomputable def f0 (a : List UInt8) (b : List UInt8) : R := sh0 a b
theorem T0 (a : List UInt8) (b : List UInt8) : exec X bd .d (fr0 a b) RR (fun _ _ => none) RR = f0 a b := by
  refine (P0 a b).trans ?_
  show _ = sh0 a b
  rfl
theorem run (a : List UInt8) (b : List UInt8) : runFn X bd .d nmR [4] [] [(.str a), (.str b)] = f0 a b := T0 a b
theorem f0_eq (a b : List UInt8) : f0 a b = some (.int .i64 (cmpS a b), []) := by
  unfold f0 sh0 cmpS
  cases h1 : slt a b <;> cases h2 : a == b <;> rfl
theorem ok : CtxOk Tryd.prog X := ctxOk tab (by
  intro p hp
  simp only [List.mem_cons, List.not_mem_nil, or_false] at hp
  rcases hp with rfl
  · exact nanStr.spOk)
theorem okM : MOk Tryd.prog X := fun g sp h => by cases h
theorem spec (a : List UInt8) (b : List UInt8) : CallSpec Tryd.prog E 60 [(.str a), (.str b)] (.int .i64 (cmpS a b)) [] :=
  runFn_sound ok okM Tryd.call60 Tryd.func60 (by kernel_rfl) (by kernel_rfl) (by kernel_rfl) (by show 2 ≤ 20; decide) (by decide) (by rfl) ((run a b).trans (f0_eq a b))
noncomputable def sp : Sp U El := fun args k => match args with
  | [.str a, .str b] => k (.int .i64 (cmpS a b)) []
  | _ => none
theorem spOk : SpOk Tryd.prog E 60 sp where
  det := fun vs => by
    unfold sp
    split
    · exact ⟨some (_, _), fun _ => rfl⟩
    · exact ⟨none, fun _ => rfl⟩
  ok := fun vs k r h => by
    unfold sp at h
    split at h
    · exact ⟨_, _, spec _ _, h⟩
    · cases h
end cmpStr
namespace orInt
noncomputable def bd : Code := (Tryd.f58.body).getD .skip
noncomputable def X : Ctx U El := ⟨E, tds, zeros, eqs, specOf [], 100000, 18, fun _ => none⟩
noncomputable def nmR : Norm U := ⟨[], [2], [], [], [], []⟩
noncomputable def RR : Kont U El := fun st => normK nmR st (retFin [2] [])
noncomputable def nm1 : Norm U := ⟨[], [3], [], [], [], []⟩
noncomputable def nm2 : Norm U := ⟨[], [3, 6, 7, 8], [], [], [], []⟩
noncomputable def fr0 (l : List Int) : St U El := ⟨[(0, (.lst .int l))], []⟩
noncomputable def fr1 (zero3 : Int) : St U El := ⟨[(3, (.int .i64 zero3))], []⟩
noncomputable def fr2 (zero3 : Int) (x6 : List Int) (x7 : Int) (x8 : Int) : St U El := ⟨[(3, (.int .i64 zero3)), (6, (.lst .int x6)), (7, (.int .i64 x7)), (8, (.int .i64 x8))], []⟩
noncomputable def sh0 (l : List Int) (k2 : Int → (List Int) → Int → Int → R) : R :=
  k2 (0 : Int) l (Int.ofNat (List.length l)) (0 : Int)
noncomputable def sh1 (zero3 : Int) : R :=
  some ((.int .i64 zero3), [])
noncomputable def sh2 (zero3 : Int) (x6 : List Int) (x7 : Int) (x8 : Int) (k1 : Int → R) (k2 : Int → (List Int) → Int → Int → R) : R :=
  condB (ilt x8 x7) (chk (inb x8 (List.length x6)) (condB ((List.getD x6 (Int.toNat x8) d_int) != zero3) (some ((.int .i64 (List.getD x6 (Int.toNat x8) d_int)), [])) (k2 zero3 x6 x7 (IntKind.wrap .i64 (x8 + (1 : Int)))))) (k1 zero3)
noncomputable def it2 (Kb1 : Kont U El) (n : Nat) : Kont U El := iter nm2 (fun st' K' => exec X (cdp [1, 1, 0, 1, 0, 0] bd) .d st' K' (Eblk 0 (cutK nm1 Kb1) (fun _ _ => none)) RR) n
noncomputable def ct1 : Kont U El := fun st => exec X (cdp [1, 1, 1] bd) .d st RR (fun _ _ => none) RR
theorem P0 (l : List Int) : exec X (cdp [] bd) (.seq none .d (.seq none .d (.seq (some nm1) (.seq none .d (.block (.loop nm2 .d))) .d))) (fr0 l) RR (fun _ _ => none) RR = sh0 l (fun y0 y1 y2 y3 => (hid (it2 (hid ct1) 100000)) (fr2 y0 y1 y2 y3)) := by kernel_rfl
theorem P1 (zero3 : Int) : exec X (cdp [1, 1, 1] bd) .d (fr1 zero3) RR (fun _ _ => none) RR = sh1 zero3 := by kernel_rfl
theorem P2 (zero3 : Int) (x6 : List Int) (x7 : Int) (x8 : Int) (Kb1 : Kont U El) (Kb2 : Kont U El) : exec X (cdp [1, 1, 0, 1, 0, 0] bd) .d (fr2 zero3 x6 x7 x8) (cutK nm2 Kb2) (Eblk 0 (cutK nm1 Kb1) (fun _ _ => none)) RR = sh2 zero3 x6 x7 x8 (fun y0 => Kb1 (fr1 y0)) (fun y0 y1 y2 y3 => Kb2 (fr2 y0 y1 y2 y3)) := by kernel_rfl
noncomputable def f1 (zero3 : Int) : R := sh1 zero3
noncomputable def f2 : Nat → Int → (List Int) → Int → Int → R
  | 0 => fun _ _ _ _ => none
  | n + 1 => fun zero3 x6 x7 x8 => sh2 zero3 x6 x7 x8 f1 (f2 n)
noncomputable def f0 (l : List Int) : R := sh0 l (f2 100000)
theorem T1 (zero3 : Int) : (hid ct1) (fr1 zero3) = f1 zero3 := by
  refine (congrFun (hid_eq _) _).trans <| (P1 zero3).trans ?_
  show _ = sh1 zero3
  rfl
theorem T2 : ∀ (n : Nat), ∀ zero3 x6 x7 x8, it2 (hid ct1) n (fr2 zero3 x6 x7 x8) = f2 n zero3 x6 x7 x8 := by
  intro n
  induction n with
  | zero => intros; rfl
  | succ n ih =>
    intro zero3 x6 x7 x8
    refine (P2 zero3 x6 x7 x8 (hid ct1) (it2 (hid ct1) n)).trans ?_
    show _ = sh2 zero3 x6 x7 x8 f1 (f2 n)
    simp only [T1, ih]
theorem H2 (zero3 : Int) (x6 : List Int) (x7 : Int) (x8 : Int) : hid (it2 (hid ct1) 100000) (fr2 zero3 x6 x7 x8) = f2 100000 zero3 x6 x7 x8 := (congrFun (hid_eq _) _).trans (T2 100000 zero3 x6 x7 x8)
theorem T0 (l : List Int) : exec X bd (.seq none .d (.seq none .d (.seq (some nm1) (.seq none .d (.block (.loop nm2 .d))) .d))) (fr0 l) RR (fun _ _ => none) RR = f0 l := by
  refine (P0 l).trans ?_
  show _ = sh0 l (f2 100000)
  simp only [H2]
theorem run (l : List Int) : runFn X bd (.seq none .d (.seq none .d (.seq (some nm1) (.seq none .d (.block (.loop nm2 .d))) .d))) nmR [2] [] [(.lst .int l)] = f0 l := T0 l
theorem loop (l : List Int) (hl : l.length ≤ 1000) : ∀ (n i : Nat), l.length < n + i → i ≤ l.length → f2 n 0 l (Int.ofNat l.length) (i : Int) = some (.int .i64 (orZ (l.drop i)), []) := by
  intro n
  induction n with
  | zero => intro i h1 h2; omega
  | succ n ih =>
    intro i h1 h2
    unfold f2 sh2
    by_cases h : i < l.length
    · have ex : l.drop i = l[i] :: l.drop (i + 1) := List.drop_eq_getElem_cons h
      have eg : List.getD l (Int.toNat (i : Int)) d_int = l[i] := getD_lt h _
      rw [iltT (by simp; omega), inbT h, eg, ex]
      simp only [condB, chk, cond_true, orZ]
      cases hx : l[i] != 0
      · rw [wrapI (by omega) (by omega)]
        exact ih (i + 1) (by omega) (by omega)
      · rfl
    · have : i = l.length := by omega
      subst this
      rw [iltF (by simp)]
      simp only [condB, cond_false, List.drop_length]
      rfl
theorem f0_eq (l : List Int) (h : nle l.length 1000 = true) : f0 l = some (.int .i64 (orZ l), []) :=
  loop l (of_decide_eq_true h) 100000 0 (by have := of_decide_eq_true h; omega) (by omega)
theorem ok : CtxOk Tryd.prog X := ctxOk tab (by
  intro p hp
  cases hp)
theorem okM : MOk Tryd.prog X := fun g sp h => by cases h
theorem spec (l : List Int) (h : (nle (List.length l) 1000) = true) : CallSpec Tryd.prog E 58 [(.lst .int l)] (.int .i64 (orZ l)) [] :=
  runFn_sound ok okM Tryd.call58 Tryd.func58 (by kernel_rfl) (by kernel_rfl) (by kernel_rfl) (by show 1 ≤ 18; decide) (by decide) (by rfl) ((run l).trans (f0_eq l h))
noncomputable def sp : Sp U El := fun args k => match args with
  | [.lst .int l] => chk (nle (List.length l) 1000) (k (.int .i64 (orZ l)) [])
  | _ => none
theorem spOk : SpOk Tryd.prog E 58 sp where
  det := fun vs => by
    unfold sp
    split
    · rename_i l
      cases hb : (nle (List.length l) 1000)
      · exact ⟨none, fun _ => rfl⟩
      · exact ⟨some (_, _), fun _ => rfl⟩
    · exact ⟨none, fun _ => rfl⟩
  ok := fun vs k r h => by
    unfold sp at h
    split at h
    · obtain ⟨h1, h2⟩ := chk_some h
      exact ⟨_, _, spec _ h1, h2⟩
    · cases h
end orInt
namespace compare
noncomputable def bd : Code := (Tryd.f46.body).getD .skip
noncomputable def X : Ctx U El := ⟨E, tds, zeros, eqs, specOf [(58, orInt.sp), (59, cmpInt.sp), (60, cmpStr.sp)], 100000, 27, fun _ => none⟩
noncomputable def nmR : Norm U := ⟨[], [4], [], [], [], []⟩
noncomputable def RR : Kont U El := fun st => normK nmR st (retFin [4] [])
noncomputable def fr0 (d : Df) (e : Df) : St U El := ⟨[(0, (.agg [(.str d.c), (.int .i64 d.a), (.int .i64 d.l), (.int .i64 d.s)])), (1, (.agg [(.str e.c), (.int .i64 e.a), (.int .i64 e.l), (.int .i64 e.s)]))], []⟩
noncomputable def sh0 (d : Df) (e : Df) : R :=
  chk (nle (List.length ([(cmpZ d.a e.a), (cmpS d.c e.c), (cmpZ d.l e.l), (cmpZ d.s e.s)] : List Int)) 1000) (some ((.int .i64 (orZ ([(cmpZ d.a e.a), (cmpS d.c e.c), (cmpZ d.l e.l), (cmpZ d.s e.s)] : List Int))), []))
theorem P0 (d : Df) (e : Df) : exec X (cdp [] bd) .d (fr0 d e) RR (fun _ _ => none) RR = sh0 d e := by kernel_rfl
noncomputable def f0 (d : Df) (e : Df) : R := sh0 d e
theorem T0 (d : Df) (e : Df) : exec X bd .d (fr0 d e) RR (fun _ _ => none) RR = f0 d e := by
  refine (P0 d e).trans ?_
  show _ = sh0 d e
  rfl
theorem run (d : Df) (e : Df) : runFn X bd .d nmR [4] [] [(.agg [(.str d.c), (.int .i64 d.a), (.int .i64 d.l), (.int .i64 d.s)]), (.agg [(.str e.c), (.int .i64 e.a), (.int .i64 e.l), (.int .i64 e.s)])] = f0 d e := T0 d e
theorem f0_eq (d e : Df) : f0 d e = some (.int .i64 (compareZ d e), []) := rfl
theorem ok : CtxOk Tryd.prog X := ctxOk tab (by
  intro p hp
  simp only [List.mem_cons, List.not_mem_nil, or_false] at hp
  rcases hp with rfl | rfl | rfl
  · exact orInt.spOk
  · exact cmpInt.spOk
  · exact cmpStr.spOk)
theorem okM : MOk Tryd.prog X := fun g sp h => by cases h
theorem spec (d : Df) (e : Df) : CallSpec Tryd.prog E 46 [(.agg [(.str d.c), (.int .i64 d.a), (.int .i64 d.l), (.int .i64 d.s)]), (.agg [(.str e.c), (.int .i64 e.a), (.int .i64 e.l), (.int .i64 e.s)])] (.int .i64 (compareZ d e)) [] :=
  runFn_sound ok okM Tryd.call46 Tryd.func46 (by kernel_rfl) (by kernel_rfl) (by kernel_rfl) (by show 2 ≤ 27; decide) (by decide) (by rfl) ((run d e).trans (f0_eq d e))
noncomputable def sp : Sp U El := fun args k => match args with
  | [.agg [.str d_c, .int .i64 d_a, .int .i64 d_l, .int .i64 d_s], .agg [.str e_c, .int .i64 e_a, .int .i64 e_l, .int .i64 e_s]] => k (.int .i64 (compareZ (⟨d_c, d_a, d_l, d_s⟩ : Df) (⟨e_c, e_a, e_l, e_s⟩ : Df))) []
  | _ => none
theorem spOk : SpOk Tryd.prog E 46 sp where
  det := fun vs => by
    unfold sp
    split
    · exact ⟨some (_, _), fun _ => rfl⟩
    · exact ⟨none, fun _ => rfl⟩
  ok := fun vs k r h => by
    unfold sp at h
    split at h
    · exact ⟨_, _, spec ⟨_, _, _, _⟩ ⟨_, _, _, _⟩, h⟩
    · cases h
end compare
end Go.Proofs.YtnhmhcobpbilhaaDoor
