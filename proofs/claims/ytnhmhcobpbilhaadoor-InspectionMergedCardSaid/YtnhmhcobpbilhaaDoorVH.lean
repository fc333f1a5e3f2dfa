/- Matched pairs: the code's and the document's. -/
import Derived.Test.YtnhmhcobpbilhaaDoorVG
namespace Go.Proofs.YtnhmhcobpbilhaaDoor
set_option linter.unusedSectionVars false
set_option linter.unusedSimpArgs false
set_option linter.unusedVariables false
set_option maxRecDepth 100000

noncomputable def nearB (t : Int) (x y : Df) : Bool := ile (x.a - y.a) t && ile (y.a - x.a) t
theorem near_max (p q t : Int) : ile (bif ilt p q then q else p) t = (ile p t && ile q t) := by
  cases h : ilt p q
  · have := iltN h
    simp only [cond_false]
    by_cases hp : p ≤ t
    · rw [ileT hp, ileT (by omega)]; rfl
    · rw [ileF hp]; rfl
  · have := iltI h
    simp only [cond_true]
    by_cases hq : q ≤ t
    · rw [ileT hq, ileT (by omega)]; rfl
    · rw [ileF hq, Bool.and_false]
noncomputable def fm (t : Int) (x : Df) : Nat → List Df → List Bool → Option Nat
  | k, y :: ys, u :: us => bif !u && ((x.c == y.c) && nearB t x y) then some k else fm t x (k + 1) ys us
  | _, _, _ => none
noncomputable def mrun (t : Int) (b : List Df) : Nat → List Df → List Bool → List (Int × Int) → List (Int × Int)
  | _, [], _, out => out
  | i, x :: a, used, out => match fm t x 0 b used with
    | some j => mrun t b (i + 1) a (used.set j true) (out ++ [((i : Int), (j : Int))])
    | none => mrun t b (i + 1) a used out
noncomputable def matchL (t : Int) (a b : List Df) : List (Int × Int) :=
  bif validB 16777216 a && validB 16777216 b then (bif ile 0 t && ile t 16777216 then mrun t b 0 a (List.replicate b.length false) [] else []) else []
noncomputable def matchE (t : Int) (a b : List Df) : Int :=
  bif validB 16777216 a && validB 16777216 b then (bif ile 0 t && ile t 16777216 then 0 else 2) else 1
theorem app_ok {out : List (Int × Int)} (h : out.length ≤ 1000) (z : Int × Int) : (nle ((List.length out + List.length ([z] : List (Int × Int))) * 16) 140737488355328 && nle (List.length out + List.length ([z] : List (Int × Int))) 9223372036854775807) = true := by
  rw [nleT (by simp; omega), nleT (by simp; omega)]; rfl
theorem nltT {a b : Nat} (h : a < b) : nlt a b = true := decide_eq_true h

namespace matchF
noncomputable def bd : Code := (Tryd.f19.body).getD .skip
noncomputable def X : Ctx U El := ⟨E, tds, zeros, eqs, specOf [(21, valid.sp)], 100000, 86, fun _ => none⟩
noncomputable def nmR : Norm U := ⟨[(6, .pair)], [6, 7], [6], [], [], []⟩
noncomputable def RR : Kont U El := fun st => normK nmR st (retFin [6, 7] [6])
noncomputable def nm1 : Norm U := ⟨[], [0, 1, 2], [], [], [], []⟩
noncomputable def nm2 : Norm U := ⟨[(9, .pair)], [9], [9], [], [], []⟩
noncomputable def nm3 : Norm U := ⟨[(8, .bool), (9, .pair)], [1, 2, 8, 9, 33, 34, 35], [8, 9], [], [], []⟩
noncomputable def nm4 : Norm U := ⟨[(8, .bool), (9, .pair)], [1, 2, 8, 9, 33, 34, 35], [8, 9], [], [], []⟩
noncomputable def nm5 : Norm U := ⟨[(8, .bool), (9, .pair)], [1, 2, 8, 9, 10, 11, 33, 34, 35, 40, 41, 42], [8, 9, 11], [], [], []⟩
noncomputable def nm6 : Norm U := ⟨[(8, .bool), (9, .pair)], [1, 2, 8, 9, 10, 11, 33, 34, 35, 40, 41, 42], [8, 9, 11], [], [], []⟩
noncomputable def fr0 (a : List Df) (b : List Df) (t : Int) : St U El := ⟨[(0, (.lst .df a)), (1, (.lst .df b)), (2, (.int .i64 t))], []⟩
noncomputable def fr1 (a0 : List Df) (b1 : List Df) (tolerance2 : Int) : St U El := ⟨[(0, (.lst .df a0)), (1, (.lst .df b1)), (2, (.int .i64 tolerance2))], []⟩
noncomputable def fr2 (out9 : List (Int × Int)) : St U El := ⟨[(9, (.ful 9))], [(9, (.rows .pair out9))]⟩
noncomputable def fr3 (b1 : List Df) (tolerance2 : Int) (used8 : List Bool) (out9 : List (Int × Int)) (x33 : List Df) (x34 : Int) (x35 : Int) : St U El := ⟨[(1, (.lst .df b1)), (2, (.int .i64 tolerance2)), (8, (.ful 8)), (9, (.ful 9)), (33, (.lst .df x33)), (34, (.int .i64 x34)), (35, (.int .i64 x35))], [(8, (.rows .bool used8)), (9, (.rows .pair out9))]⟩
noncomputable def fr4 (b1 : List Df) (tolerance2 : Int) (used8 : List Bool) (out9 : List (Int × Int)) (x33 : List Df) (x34 : Int) (x35 : Int) : St U El := ⟨[(1, (.lst .df b1)), (2, (.int .i64 tolerance2)), (8, (.ful 8)), (9, (.ful 9)), (33, (.lst .df x33)), (34, (.int .i64 x34)), (35, (.int .i64 x35))], [(8, (.rows .bool used8)), (9, (.rows .pair out9))]⟩
noncomputable def fr5 (b1 : List Df) (tolerance2 : Int) (used8 : List Bool) (out9 : List (Int × Int)) (i10 : Int) (x33 : List Df) (x34 : Int) (x35 : Int) (x40 : List Df) (x41 : Int) (x42 : Int) (b11 : Df) : St U El := ⟨[(1, (.lst .df b1)), (2, (.int .i64 tolerance2)), (8, (.ful 8)), (9, (.ful 9)), (10, (.int .i64 i10)), (11, (.ptr 11 0)), (33, (.lst .df x33)), (34, (.int .i64 x34)), (35, (.int .i64 x35)), (40, (.lst .df x40)), (41, (.int .i64 x41)), (42, (.int .i64 x42))], [(8, (.rows .bool used8)), (9, (.rows .pair out9)), (11, (.box 0 [(.str b11.c), (.int .i64 b11.a), (.int .i64 b11.l), (.int .i64 b11.s)]))]⟩
noncomputable def fr6 (b1 : List Df) (tolerance2 : Int) (used8 : List Bool) (out9 : List (Int × Int)) (i10 : Int) (x33 : List Df) (x34 : Int) (x35 : Int) (x40 : List Df) (x41 : Int) (x42 : Int) (b11 : Df) : St U El := ⟨[(1, (.lst .df b1)), (2, (.int .i64 tolerance2)), (8, (.ful 8)), (9, (.ful 9)), (10, (.int .i64 i10)), (11, (.ptr 11 0)), (33, (.lst .df x33)), (34, (.int .i64 x34)), (35, (.int .i64 x35)), (40, (.lst .df x40)), (41, (.int .i64 x41)), (42, (.int .i64 x42))], [(8, (.rows .bool used8)), (9, (.rows .pair out9)), (11, (.box 0 [(.str b11.c), (.int .i64 b11.a), (.int .i64 b11.l), (.int .i64 b11.s)]))]⟩
noncomputable def sh0 (a : List Df) (b : List Df) (t : Int) (k1 : (List Df) → (List Df) → Int → R) : R :=
  condB (!(validB (16777216 : Int) a)) (some ((.tup [(.ful 0), (.int .i64 (1 : Int))]), [(0, .rows .pair ([] : List (Int × Int)))])) (condB (!(validB (16777216 : Int) b)) (some ((.tup [(.ful 0), (.int .i64 (1 : Int))]), [(0, .rows .pair ([] : List (Int × Int)))])) (condB (ilt t (0 : Int)) (some ((.tup [(.ful 0), (.int .i64 (2 : Int))]), [(0, .rows .pair ([] : List (Int × Int)))])) (condB (ilt (16777216 : Int) t) (some ((.tup [(.ful 0), (.int .i64 (2 : Int))]), [(0, .rows .pair ([] : List (Int × Int)))])) (k1 a b t))))
noncomputable def sh1 (a0 : List Df) (b1 : List Df) (tolerance2 : Int) (k3 : (List Df) → Int → (List Bool) → (List (Int × Int)) → (List Df) → Int → Int → R) : R :=
  chk (ile 0 (Int.ofNat (List.length b1)) && ile (Int.ofNat (List.length b1)) (Int.ofNat (List.length b1)) && ile ((Int.ofNat (List.length b1)) * 1) 140737488355328) (k3 b1 tolerance2 (List.replicate (Int.toNat (Int.ofNat (List.length b1))) d_bool) ([] : List (Int × Int)) a0 (Int.ofNat (List.length a0)) (0 : Int))
noncomputable def sh2 (out9 : List (Int × Int)) : R :=
  some ((.tup [(.ful 0), (.int .i64 (0 : Int))]), [(0, .rows .pair out9)])
noncomputable def sh3 (b1 : List Df) (tolerance2 : Int) (used8 : List Bool) (out9 : List (Int × Int)) (x33 : List Df) (x34 : Int) (x35 : Int) (k2 : (List (Int × Int)) → R) (k5 : (List Df) → Int → (List Bool) → (List (Int × Int)) → Int → (List Df) → Int → Int → (List Df) → Int → Int → Df → R) : R :=
  condB (ilt x35 x34) (chk (inb x35 (List.length x33)) (k5 b1 tolerance2 used8 out9 x35 x33 x34 x35 b1 (Int.ofNat (List.length b1)) (0 : Int) (List.getD x33 (Int.toNat x35) d_df))) (k2 out9)
noncomputable def sh4 (b1 : List Df) (tolerance2 : Int) (used8 : List Bool) (out9 : List (Int × Int)) (x33 : List Df) (x34 : Int) (x35 : Int) (k3 : (List Df) → Int → (List Bool) → (List (Int × Int)) → (List Df) → Int → Int → R) : R :=
  k3 b1 tolerance2 used8 out9 x33 x34 (IntKind.wrap .i64 (x35 + (1 : Int)))
noncomputable def sh5 (b1 : List Df) (tolerance2 : Int) (used8 : List Bool) (out9 : List (Int × Int)) (i10 : Int) (x33 : List Df) (x34 : Int) (x35 : Int) (x40 : List Df) (x41 : Int) (x42 : Int) (b11 : Df) (k4 : (List Df) → Int → (List Bool) → (List (Int × Int)) → (List Df) → Int → Int → R) (k6 : (List Df) → Int → (List Bool) → (List (Int × Int)) → Int → (List Df) → Int → Int → (List Df) → Int → Int → Df → R) : R :=
  condB (ilt x42 x41) (chk (inb x42 (List.length x40)) (chk (inb x42 (List.length used8)) (chk (nlt (Int.toNat x42) (List.length used8)) (condB (!(List.getD used8 (Int.toNat x42) d_bool)) (condB (b11.c == ((List.getD x40 (Int.toNat x42) d_df).c)) (condB (ile (bif ilt (IntKind.wrap .i64 (b11.a - (List.getD x40 (Int.toNat x42) d_df).a)) (IntKind.wrap .i64 ((List.getD x40 (Int.toNat x42) d_df).a - b11.a)) then (IntKind.wrap .i64 ((List.getD x40 (Int.toNat x42) d_df).a - b11.a)) else (IntKind.wrap .i64 (b11.a - (List.getD x40 (Int.toNat x42) d_df).a))) tolerance2) (chk (inb x42 (List.length used8)) (chk (nlt (Int.toNat x42) (List.length used8) && true) (chk (nle ((List.length out9 + List.length ([(⟨i10, x42⟩ : Int × Int)] : List (Int × Int))) * 16) 140737488355328 && nle (List.length out9 + List.length ([(⟨i10, x42⟩ : Int × Int)] : List (Int × Int))) 9223372036854775807) (k4 b1 tolerance2 (List.set used8 (Int.toNat x42) true) (out9 ++ ([(⟨i10, x42⟩ : Int × Int)] : List (Int × Int))) x33 x34 x35)))) (k6 b1 tolerance2 used8 out9 i10 x33 x34 x35 x40 x41 x42 b11)) (k6 b1 tolerance2 used8 out9 i10 x33 x34 x35 x40 x41 x42 b11)) (k6 b1 tolerance2 used8 out9 i10 x33 x34 x35 x40 x41 x42 b11))))) (k4 b1 tolerance2 used8 out9 x33 x34 x35)
noncomputable def sh6 (b1 : List Df) (tolerance2 : Int) (used8 : List Bool) (out9 : List (Int × Int)) (i10 : Int) (x33 : List Df) (x34 : Int) (x35 : Int) (x40 : List Df) (x41 : Int) (x42 : Int) (b11 : Df) (k5 : (List Df) → Int → (List Bool) → (List (Int × Int)) → Int → (List Df) → Int → Int → (List Df) → Int → Int → Df → R) : R :=
  k5 b1 tolerance2 used8 out9 i10 x33 x34 x35 x40 x41 (IntKind.wrap .i64 (x42 + (1 : Int))) b11
noncomputable def it3 (Kb2 : Kont U El) (n : Nat) : Kont U El := iter nm3 (fun st' K' => exec X (cdp [1, 1, 1, 1, 0, 1, 0, 0] bd) (.seq none .d (.seq none .d (.seq (some nm4) (.block (.seq none .d (.seq none .d (.block (.loop nm5 (.seq none .d (.seq none .d (.seq (some nm6) .d .d)))))))) .d))) st' K' (Eblk 1 (cutK nm2 Kb2) (fun _ _ => none)) RR) n
noncomputable def it5 (Kb2 : Kont U El) (Kb4 : Kont U El) (n : Nat) : Kont U El := iter nm5 (fun st' K' => exec X (cdp [1, 1, 1, 1, 0, 1, 0, 0, 1, 1, 0, 0, 1, 1, 0, 0] bd) (.seq none .d (.seq none .d (.seq (some nm6) .d .d))) st' K' (Eblk 3 (cutK nm4 Kb4) (Eblk 2 (cutK nm4 Kb4) (Eblk 1 (cutK nm2 Kb2) (fun _ _ => none)))) RR) n
noncomputable def ct1 : Kont U El := fun st => exec X (cdp [1, 1] bd) (.seq none .d (.seq none .d (.seq (some nm2) (.seq none .d (.block (.loop nm3 (.seq none .d (.seq none .d (.seq (some nm4) (.block (.seq none .d (.seq none .d (.block (.loop nm5 (.seq none .d (.seq none .d (.seq (some nm6) .d .d)))))))) .d)))))) .d))) st RR (fun _ _ => none) RR
noncomputable def ct2 : Kont U El := fun st => exec X (cdp [1, 1, 1, 1, 1] bd) .d st RR (fun _ _ => none) RR
noncomputable def ct4 (Kb2 : Kont U El) (Kb3 : Kont U El) : Kont U El := fun st => exec X (cdp [1, 1, 1, 1, 0, 1, 0, 0, 1, 1, 1] bd) .d st (cutK nm3 Kb3) (Eblk 1 (cutK nm2 Kb2) (fun _ _ => none)) RR
noncomputable def ct6 (Kb2 : Kont U El) (Kb4 : Kont U El) (Kb5 : Kont U El) : Kont U El := fun st => exec X (cdp [1, 1, 1, 1, 0, 1, 0, 0, 1, 1, 0, 0, 1, 1, 0, 0, 1, 1, 1] bd) .d st (cutK nm5 Kb5) (Eblk 3 (cutK nm4 Kb4) (Eblk 2 (cutK nm4 Kb4) (Eblk 1 (cutK nm2 Kb2) (fun _ _ => none)))) RR
theorem P0 (a : List Df) (b : List Df) (t : Int) : exec X (cdp [] bd) (.seq none .d (.seq (some nm1) .d (.seq none .d (.seq none .d (.seq (some nm2) (.seq none .d (.block (.loop nm3 (.seq none .d (.seq none .d (.seq (some nm4) (.block (.seq none .d (.seq none .d (.block (.loop nm5 (.seq none .d (.seq none .d (.seq (some nm6) .d .d)))))))) .d)))))) .d))))) (fr0 a b t) RR (fun _ _ => none) RR = sh0 a b t (fun y0 y1 y2 => (hid ct1) (fr1 y0 y1 y2)) := by kernel_rfl
theorem P1 (a0 : List Df) (b1 : List Df) (tolerance2 : Int) : exec X (cdp [1, 1] bd) (.seq none .d (.seq none .d (.seq (some nm2) (.seq none .d (.block (.loop nm3 (.seq none .d (.seq none .d (.seq (some nm4) (.block (.seq none .d (.seq none .d (.block (.loop nm5 (.seq none .d (.seq none .d (.seq (some nm6) .d .d)))))))) .d)))))) .d))) (fr1 a0 b1 tolerance2) RR (fun _ _ => none) RR = sh1 a0 b1 tolerance2 (fun y0 y1 y2 y3 y4 y5 y6 => (hid (it3 (hid ct2) 100000)) (fr3 y0 y1 y2 y3 y4 y5 y6)) := by kernel_rfl
theorem P2 (out9 : List (Int × Int)) : exec X (cdp [1, 1, 1, 1, 1] bd) .d (fr2 out9) RR (fun _ _ => none) RR = sh2 out9 := by kernel_rfl
theorem P3 (b1 : List Df) (tolerance2 : Int) (used8 : List Bool) (out9 : List (Int × Int)) (x33 : List Df) (x34 : Int) (x35 : Int) (Kb2 : Kont U El) (Kb3 : Kont U El) : exec X (cdp [1, 1, 1, 1, 0, 1, 0, 0] bd) (.seq none .d (.seq none .d (.seq (some nm4) (.block (.seq none .d (.seq none .d (.block (.loop nm5 (.seq none .d (.seq none .d (.seq (some nm6) .d .d)))))))) .d))) (fr3 b1 tolerance2 used8 out9 x33 x34 x35) (cutK nm3 Kb3) (Eblk 1 (cutK nm2 Kb2) (fun _ _ => none)) RR = sh3 b1 tolerance2 used8 out9 x33 x34 x35 (fun y0 => Kb2 (fr2 y0)) (fun y0 y1 y2 y3 y4 y5 y6 y7 y8 y9 y10 y11 => (hid (it5 Kb2 (hid (ct4 Kb2 Kb3)) 100000)) (fr5 y0 y1 y2 y3 y4 y5 y6 y7 y8 y9 y10 y11)) := by kernel_rfl
theorem P4 (b1 : List Df) (tolerance2 : Int) (used8 : List Bool) (out9 : List (Int × Int)) (x33 : List Df) (x34 : Int) (x35 : Int) (Kb2 : Kont U El) (Kb3 : Kont U El) : exec X (cdp [1, 1, 1, 1, 0, 1, 0, 0, 1, 1, 1] bd) .d (fr4 b1 tolerance2 used8 out9 x33 x34 x35) (cutK nm3 Kb3) (Eblk 1 (cutK nm2 Kb2) (fun _ _ => none)) RR = sh4 b1 tolerance2 used8 out9 x33 x34 x35 (fun y0 y1 y2 y3 y4 y5 y6 => Kb3 (fr3 y0 y1 y2 y3 y4 y5 y6)) := by kernel_rfl
theorem P5 (b1 : List Df) (tolerance2 : Int) (used8 : List Bool) (out9 : List (Int × Int)) (i10 : Int) (x33 : List Df) (x34 : Int) (x35 : Int) (x40 : List Df) (x41 : Int) (x42 : Int) (b11 : Df) (Kb2 : Kont U El) (Kb4 : Kont U El) (Kb5 : Kont U El) : exec X (cdp [1, 1, 1, 1, 0, 1, 0, 0, 1, 1, 0, 0, 1, 1, 0, 0] bd) (.seq none .d (.seq none .d (.seq (some nm6) .d .d))) (fr5 b1 tolerance2 used8 out9 i10 x33 x34 x35 x40 x41 x42 b11) (cutK nm5 Kb5) (Eblk 3 (cutK nm4 Kb4) (Eblk 2 (cutK nm4 Kb4) (Eblk 1 (cutK nm2 Kb2) (fun _ _ => none)))) RR = sh5 b1 tolerance2 used8 out9 i10 x33 x34 x35 x40 x41 x42 b11 (fun y0 y1 y2 y3 y4 y5 y6 => Kb4 (fr4 y0 y1 y2 y3 y4 y5 y6)) (fun y0 y1 y2 y3 y4 y5 y6 y7 y8 y9 y10 y11 => (hid (ct6 Kb2 Kb4 Kb5)) (fr6 y0 y1 y2 y3 y4 y5 y6 y7 y8 y9 y10 y11)) := by kernel_rfl
theorem P6 (b1 : List Df) (tolerance2 : Int) (used8 : List Bool) (out9 : List (Int × Int)) (i10 : Int) (x33 : List Df) (x34 : Int) (x35 : Int) (x40 : List Df) (x41 : Int) (x42 : Int) (b11 : Df) (Kb2 : Kont U El) (Kb4 : Kont U El) (Kb5 : Kont U El) : exec X (cdp [1, 1, 1, 1, 0, 1, 0, 0, 1, 1, 0, 0, 1, 1, 0, 0, 1, 1, 1] bd) .d (fr6 b1 tolerance2 used8 out9 i10 x33 x34 x35 x40 x41 x42 b11) (cutK nm5 Kb5) (Eblk 3 (cutK nm4 Kb4) (Eblk 2 (cutK nm4 Kb4) (Eblk 1 (cutK nm2 Kb2) (fun _ _ => none)))) RR = sh6 b1 tolerance2 used8 out9 i10 x33 x34 x35 x40 x41 x42 b11 (fun y0 y1 y2 y3 y4 y5 y6 y7 y8 y9 y10 y11 => Kb5 (fr5 y0 y1 y2 y3 y4 y5 y6 y7 y8 y9 y10 y11)) := by kernel_rfl
noncomputable def f2 (out9 : List (Int × Int)) : R := sh2 out9
noncomputable def f4 (k3 : (List Df) → Int → (List Bool) → (List (Int × Int)) → (List Df) → Int → Int → R) (b1 : List Df) (tolerance2 : Int) (used8 : List Bool) (out9 : List (Int × Int)) (x33 : List Df) (x34 : Int) (x35 : Int) : R := sh4 b1 tolerance2 used8 out9 x33 x34 x35 k3
noncomputable def f6 (k3 : (List Df) → Int → (List Bool) → (List (Int × Int)) → (List Df) → Int → Int → R) (k5 : (List Df) → Int → (List Bool) → (List (Int × Int)) → Int → (List Df) → Int → Int → (List Df) → Int → Int → Df → R) (b1 : List Df) (tolerance2 : Int) (used8 : List Bool) (out9 : List (Int × Int)) (i10 : Int) (x33 : List Df) (x34 : Int) (x35 : Int) (x40 : List Df) (x41 : Int) (x42 : Int) (b11 : Df) : R := sh6 b1 tolerance2 used8 out9 i10 x33 x34 x35 x40 x41 x42 b11 k5
noncomputable def f5 (k3 : (List Df) → Int → (List Bool) → (List (Int × Int)) → (List Df) → Int → Int → R) : Nat → (List Df) → Int → (List Bool) → (List (Int × Int)) → Int → (List Df) → Int → Int → (List Df) → Int → Int → Df → R
  | 0 => fun _ _ _ _ _ _ _ _ _ _ _ _ => none
  | n + 1 => fun b1 tolerance2 used8 out9 i10 x33 x34 x35 x40 x41 x42 b11 => sh5 b1 tolerance2 used8 out9 i10 x33 x34 x35 x40 x41 x42 b11 (f4 k3) (f6 k3 (f5 k3 n))
noncomputable def f3 : Nat → (List Df) → Int → (List Bool) → (List (Int × Int)) → (List Df) → Int → Int → R
  | 0 => fun _ _ _ _ _ _ _ => none
  | n + 1 => fun b1 tolerance2 used8 out9 x33 x34 x35 => sh3 b1 tolerance2 used8 out9 x33 x34 x35 f2 (f5 (f3 n) 100000)
noncomputable def f1 (a0 : List Df) (b1 : List Df) (tolerance2 : Int) : R := sh1 a0 b1 tolerance2 (f3 100000)
noncomputable def f0 (a : List Df) (b : List Df) (t : Int) : R := sh0 a b t f1
theorem T2 (out9 : List (Int × Int)) : (hid ct2) (fr2 out9) = f2 out9 := by
  refine (congrFun (hid_eq _) _).trans <| (P2 out9).trans ?_
  show _ = sh2 out9
  rfl
theorem T4 (KL3 : Kont U El) (k3 : (List Df) → Int → (List Bool) → (List (Int × Int)) → (List Df) → Int → Int → R) (h3 : ∀ b1 tolerance2 used8 out9 x33 x34 x35, KL3 (fr3 b1 tolerance2 used8 out9 x33 x34 x35) = k3 b1 tolerance2 used8 out9 x33 x34 x35) (b1 : List Df) (tolerance2 : Int) (used8 : List Bool) (out9 : List (Int × Int)) (x33 : List Df) (x34 : Int) (x35 : Int) : (hid (ct4 (hid ct2) KL3)) (fr4 b1 tolerance2 used8 out9 x33 x34 x35) = f4 k3 b1 tolerance2 used8 out9 x33 x34 x35 := by
  refine (congrFun (hid_eq _) _).trans <| (P4 b1 tolerance2 used8 out9 x33 x34 x35 (hid ct2) KL3).trans ?_
  show _ = sh4 b1 tolerance2 used8 out9 x33 x34 x35 k3
  simp only [h3]
theorem T6 (KL3 : Kont U El) (KL5 : Kont U El) (k3 : (List Df) → Int → (List Bool) → (List (Int × Int)) → (List Df) → Int → Int → R) (k5 : (List Df) → Int → (List Bool) → (List (Int × Int)) → Int → (List Df) → Int → Int → (List Df) → Int → Int → Df → R) (h3 : ∀ b1 tolerance2 used8 out9 x33 x34 x35, KL3 (fr3 b1 tolerance2 used8 out9 x33 x34 x35) = k3 b1 tolerance2 used8 out9 x33 x34 x35) (h5 : ∀ b1 tolerance2 used8 out9 i10 x33 x34 x35 x40 x41 x42 b11, KL5 (fr5 b1 tolerance2 used8 out9 i10 x33 x34 x35 x40 x41 x42 b11) = k5 b1 tolerance2 used8 out9 i10 x33 x34 x35 x40 x41 x42 b11) (b1 : List Df) (tolerance2 : Int) (used8 : List Bool) (out9 : List (Int × Int)) (i10 : Int) (x33 : List Df) (x34 : Int) (x35 : Int) (x40 : List Df) (x41 : Int) (x42 : Int) (b11 : Df) : (hid (ct6 (hid ct2) (hid (ct4 (hid ct2) KL3)) KL5)) (fr6 b1 tolerance2 used8 out9 i10 x33 x34 x35 x40 x41 x42 b11) = f6 k3 k5 b1 tolerance2 used8 out9 i10 x33 x34 x35 x40 x41 x42 b11 := by
  refine (congrFun (hid_eq _) _).trans <| (P6 b1 tolerance2 used8 out9 i10 x33 x34 x35 x40 x41 x42 b11 (hid ct2) (hid (ct4 (hid ct2) KL3)) KL5).trans ?_
  show _ = sh6 b1 tolerance2 used8 out9 i10 x33 x34 x35 x40 x41 x42 b11 k5
  simp only [h5]
theorem T5 (KL3 : Kont U El) (k3 : (List Df) → Int → (List Bool) → (List (Int × Int)) → (List Df) → Int → Int → R) (h3 : ∀ b1 tolerance2 used8 out9 x33 x34 x35, KL3 (fr3 b1 tolerance2 used8 out9 x33 x34 x35) = k3 b1 tolerance2 used8 out9 x33 x34 x35) : ∀ (n : Nat), ∀ b1 tolerance2 used8 out9 i10 x33 x34 x35 x40 x41 x42 b11, it5 (hid ct2) (hid (ct4 (hid ct2) KL3)) n (fr5 b1 tolerance2 used8 out9 i10 x33 x34 x35 x40 x41 x42 b11) = f5 k3 n b1 tolerance2 used8 out9 i10 x33 x34 x35 x40 x41 x42 b11 := by
  intro n
  induction n with
  | zero => intros; rfl
  | succ n ih =>
    intro b1 tolerance2 used8 out9 i10 x33 x34 x35 x40 x41 x42 b11
    refine (P5 b1 tolerance2 used8 out9 i10 x33 x34 x35 x40 x41 x42 b11 (hid ct2) (hid (ct4 (hid ct2) KL3)) (it5 (hid ct2) (hid (ct4 (hid ct2) KL3)) n)).trans ?_
    show _ = sh5 b1 tolerance2 used8 out9 i10 x33 x34 x35 x40 x41 x42 b11 (f4 k3) (f6 k3 (f5 k3 n))
    simp only [T4 KL3 k3 h3, T6 KL3 (it5 (hid ct2) (hid (ct4 (hid ct2) KL3)) n) k3 (f5 k3 n) h3 ih]
theorem H5 (KL3 : Kont U El) (k3 : (List Df) → Int → (List Bool) → (List (Int × Int)) → (List Df) → Int → Int → R) (h3 : ∀ b1 tolerance2 used8 out9 x33 x34 x35, KL3 (fr3 b1 tolerance2 used8 out9 x33 x34 x35) = k3 b1 tolerance2 used8 out9 x33 x34 x35) (b1 : List Df) (tolerance2 : Int) (used8 : List Bool) (out9 : List (Int × Int)) (i10 : Int) (x33 : List Df) (x34 : Int) (x35 : Int) (x40 : List Df) (x41 : Int) (x42 : Int) (b11 : Df) : hid (it5 (hid ct2) (hid (ct4 (hid ct2) KL3)) 100000) (fr5 b1 tolerance2 used8 out9 i10 x33 x34 x35 x40 x41 x42 b11) = f5 k3 100000 b1 tolerance2 used8 out9 i10 x33 x34 x35 x40 x41 x42 b11 := (congrFun (hid_eq _) _).trans (T5 KL3 k3 h3 100000 b1 tolerance2 used8 out9 i10 x33 x34 x35 x40 x41 x42 b11)
theorem T3 : ∀ (n : Nat), ∀ b1 tolerance2 used8 out9 x33 x34 x35, it3 (hid ct2) n (fr3 b1 tolerance2 used8 out9 x33 x34 x35) = f3 n b1 tolerance2 used8 out9 x33 x34 x35 := by
  intro n
  induction n with
  | zero => intros; rfl
  | succ n ih =>
    intro b1 tolerance2 used8 out9 x33 x34 x35
    refine (P3 b1 tolerance2 used8 out9 x33 x34 x35 (hid ct2) (it3 (hid ct2) n)).trans ?_
    show _ = sh3 b1 tolerance2 used8 out9 x33 x34 x35 f2 (f5 (f3 n) 100000)
    simp only [T2, H5 (it3 (hid ct2) n) (f3 n) ih]
theorem H3 (b1 : List Df) (tolerance2 : Int) (used8 : List Bool) (out9 : List (Int × Int)) (x33 : List Df) (x34 : Int) (x35 : Int) : hid (it3 (hid ct2) 100000) (fr3 b1 tolerance2 used8 out9 x33 x34 x35) = f3 100000 b1 tolerance2 used8 out9 x33 x34 x35 := (congrFun (hid_eq _) _).trans (T3 100000 b1 tolerance2 used8 out9 x33 x34 x35)
theorem T1 (a0 : List Df) (b1 : List Df) (tolerance2 : Int) : (hid ct1) (fr1 a0 b1 tolerance2) = f1 a0 b1 tolerance2 := by
  refine (congrFun (hid_eq _) _).trans <| (P1 a0 b1 tolerance2).trans ?_
  show _ = sh1 a0 b1 tolerance2 (f3 100000)
  simp only [H3]
theorem T0 (a : List Df) (b : List Df) (t : Int) : exec X bd (.seq none .d (.seq (some nm1) .d (.seq none .d (.seq none .d (.seq (some nm2) (.seq none .d (.block (.loop nm3 (.seq none .d (.seq none .d (.seq (some nm4) (.block (.seq none .d (.seq none .d (.block (.loop nm5 (.seq none .d (.seq none .d (.seq (some nm6) .d .d)))))))) .d)))))) .d))))) (fr0 a b t) RR (fun _ _ => none) RR = f0 a b t := by
  refine (P0 a b t).trans ?_
  show _ = sh0 a b t f1
  simp only [T1]
theorem run (a : List Df) (b : List Df) (t : Int) : runFn X bd (.seq none .d (.seq (some nm1) .d (.seq none .d (.seq none .d (.seq (some nm2) (.seq none .d (.block (.loop nm3 (.seq none .d (.seq none .d (.seq (some nm4) (.block (.seq none .d (.seq none .d (.block (.loop nm5 (.seq none .d (.seq none .d (.seq (some nm6) .d .d)))))))) .d)))))) .d))))) nmR [6, 7] [6] [(.lst .df a), (.lst .df b), (.int .i64 t)] = f0 a b t := T0 a b t
theorem inner (a b : List Df) (t : Int) (used : List Bool) (out : List (Int × Int)) (i : Nat) (x : Df) (hb : okW b = true) (hx : 0 ≤ x.a ∧ x.a ≤ 16777216) (hu : used.length = b.length) (ho : out.length ≤ i) (hi : i ≤ 1000)
    (k3 : (List Df) → Int → (List Bool) → (List (Int × Int)) → (List Df) → Int → Int → R) : ∀ (n k : Nat), b.length < n + k → k ≤ b.length →
    f5 k3 n b t used out (i : Int) a (Int.ofNat a.length) (i : Int) b (Int.ofNat b.length) (k : Int) x = match fm t x k (b.drop k) (used.drop k) with
      | some j => k3 b t (used.set j true) (out ++ [((i : Int), (j : Int))]) a (Int.ofNat a.length) ((i + 1 : Nat) : Int)
      | none => k3 b t used out a (Int.ofNat a.length) ((i + 1 : Nat) : Int) := by
  have hl := okW_len hb
  intro n
  induction n with
  | zero => intro k h1 h2; omega
  | succ n ih =>
    intro k h1 h2
    show sh5 b t used out i a (Int.ofNat a.length) i b (Int.ofNat b.length) k x (f4 k3) (f6 k3 (f5 k3 n)) = _
    unfold sh5
    by_cases hk : k < b.length
    · have hk' : k < used.length := by omega
      obtain ⟨hd, ha1, ha2⟩ := okW_at hb hk
      rw [iltT (by simp; omega), inbT hk, inbT hk', toNat_nat, nltT hk', getD_lt hk, getD_lt hk', wrapI (x := x.a - b[k].a) (by omega) (by omega), wrapI (x := b[k].a - x.a) (by omega) (by omega), near_max, app_ok (by omega), drop_lt hk, drop_lt hk']
      simp only [fm, nearB, f6, sh6, f4, sh4, wrapS k (show k ≤ 1000000 by omega), wrapS i (show i ≤ 1000000 by omega)]
      cases used[k]
      · cases x.c == b[k].c
        · exact ih (k + 1) (by omega) (by omega)
        · cases ile (x.a - b[k].a) t
          · exact ih (k + 1) (by omega) (by omega)
          · cases ile (b[k].a - x.a) t
            · exact ih (k + 1) (by omega) (by omega)
            · rfl
      · exact ih (k + 1) (by omega) (by omega)
    · have : k = b.length := by omega
      subst this
      rw [iltF (by simp), List.drop_length]
      simp only [fm, f4, sh4, wrapS i (show i ≤ 1000000 by omega)]
      rfl
theorem loop (a b : List Df) (t : Int) (ha : okW a = true) (hb : okW b = true) : ∀ (n i : Nat) (used : List Bool) (out : List (Int × Int)), a.length < n + i → i ≤ a.length → used.length = b.length → out.length ≤ i →
    f3 n b t used out a (Int.ofNat a.length) (i : Int) = some (.tup [.ful 0, .int .i64 0], [(0, .rows .pair (mrun t b i (a.drop i) used out))]) := by
  have hl := okW_len ha
  have hlb := okW_len hb
  intro n
  induction n with
  | zero => intro i used out h1 h2; omega
  | succ n ih =>
    intro i used out h1 h2 hu ho
    show sh3 b t used out a (Int.ofNat a.length) i f2 (f5 (f3 n) 100000) = _
    unfold sh3
    by_cases hi : i < a.length
    · rw [iltT (by simp; omega), inbT hi, toNat_nat, getD_lt hi, drop_lt hi]
      refine (inner a b t used out i a[i] hb (okW_at ha hi).2 hu ho (by omega) (f3 n) 100000 0 (by omega) (by omega)).trans ?_
      simp only [List.drop_zero, mrun]
      cases fm t a[i] 0 b used with
      | none => exact ih (i + 1) used out (by omega) (by omega) hu (by omega)
      | some j => exact ih (i + 1) _ _ (by omega) (by omega) (by simpa using hu) (by simp; omega)
    · have : i = a.length := by omega
      subst this
      rw [iltF (by simp), List.drop_length]
      rfl
theorem f0_eq (a b : List Df) (t : Int) : f0 a b t = some (.tup [.ful 0, .int .i64 (matchE t a b)], [(0, .rows .pair (matchL t a b))]) := by
  unfold f0 sh0 matchE matchL
  cases h1 : validB 16777216 a
  · rfl
  cases h2 : validB 16777216 b
  · rfl
  by_cases h3 : t < 0
  · rw [iltT h3, ileF (show ¬ 0 ≤ t by omega)]; rfl
  rw [iltF h3, ileT (show 0 ≤ t by omega)]
  by_cases h4 : 16777216 < t
  · rw [iltT h4, ileF (show ¬ t ≤ 16777216 by omega)]; rfl
  rw [iltF h4, ileT (show t ≤ 16777216 by omega)]
  obtain ⟨ha, _⟩ := valid_okW h1
  obtain ⟨hb, _⟩ := valid_okW h2
  have hlb := okW_len hb
  have hla := okW_len ha
  show f1 a b t = _
  unfold f1 sh1
  rw [ileT (show (0 : Int) ≤ Int.ofNat b.length by simp), ileT (Int.le_refl _), ileT (show Int.ofNat b.length * 1 ≤ 140737488355328 by simp; omega)]
  exact loop a b t ha hb 100000 0 (List.replicate b.length false) [] (by omega) (by omega) (by simp) (by simp)
theorem ok : CtxOk Tryd.prog X := ctxOk tab (by
  intro p hp
  simp only [List.mem_cons, List.not_mem_nil, or_false] at hp
  rcases hp with rfl
  · exact valid.spOk)
theorem okM : MOk Tryd.prog X := fun g sp h => by cases h
theorem spec (a : List Df) (b : List Df) (t : Int) : CallSpec Tryd.prog E 19 [(.lst .df a), (.lst .df b), (.int .i64 t)] (.tup [(.ful 0), (.int .i64 (matchE t a b))]) [(0, .rows .pair (matchL t a b))] :=
  runFn_sound ok okM Tryd.call19 Tryd.func19 (by kernel_rfl) (by kernel_rfl) (by kernel_rfl) (by show 3 ≤ 86; decide) (by decide) (by rfl) ((run a b t).trans (f0_eq a b t))
noncomputable def sp : Sp U El := fun args k => match args with
  | [.lst .df a, .lst .df b, .int .i64 t] => k (.tup [(.ful 0), (.int .i64 (matchE t a b))]) [(0, .rows .pair (matchL t a b))]
  | _ => none
theorem spOk : SpOk Tryd.prog E 19 sp where
  det := fun vs => by
    unfold sp
    split
    · exact ⟨some (_, _), fun _ => rfl⟩
    · exact ⟨none, fun _ => rfl⟩
  ok := fun vs k r h => by
    unfold sp at h
    split at h
    · exact ⟨_, _, spec _ _ _, h⟩
    · cases h
end matchF
namespace rmatch
noncomputable def bd : Code := (Tryd.f26.body).getD .skip
noncomputable def X : Ctx U El := ⟨E, tds, zeros, eqs, specOf [], 100000, 84, fun _ => none⟩
noncomputable def nmR : Norm U := ⟨[(6, .pair)], [6], [6], [], [], []⟩
noncomputable def RR : Kont U El := fun st => normK nmR st (retFin [6] [6])
noncomputable def nm1 : Norm U := ⟨[(8, .pair)], [8], [8], [], [], []⟩
noncomputable def nm2 : Norm U := ⟨[(7, .bool), (8, .pair)], [0, 1, 2, 7, 8, 9], [7, 8], [], [], []⟩
noncomputable def nm3 : Norm U := ⟨[(7, .bool), (8, .pair)], [0, 1, 2, 7, 8, 9], [7, 8], [], [], []⟩
noncomputable def nm4 : Norm U := ⟨[(7, .bool), (8, .pair)], [0, 1, 2, 7, 8, 9, 10], [7, 8], [], [], []⟩
noncomputable def nm5 : Norm U := ⟨[(7, .bool), (8, .pair)], [0, 1, 2, 7, 8, 9, 10], [7, 8], [], [], []⟩
noncomputable def fr0 (a : List Df) (b : List Df) (t : Int) : St U El := ⟨[(0, (.lst .df a)), (1, (.lst .df b)), (2, (.int .i64 t))], []⟩
noncomputable def fr1 (out8 : List (Int × Int)) : St U El := ⟨[(8, (.ful 8))], [(8, (.rows .pair out8))]⟩
noncomputable def fr2 (a0 : List Df) (b1 : List Df) (tolerance2 : Int) (used7 : List Bool) (out8 : List (Int × Int)) (i9 : Int) : St U El := ⟨[(0, (.lst .df a0)), (1, (.lst .df b1)), (2, (.int .i64 tolerance2)), (7, (.ful 7)), (8, (.ful 8)), (9, (.int .i64 i9))], [(7, (.rows .bool used7)), (8, (.rows .pair out8))]⟩
noncomputable def fr3 (a0 : List Df) (b1 : List Df) (tolerance2 : Int) (used7 : List Bool) (out8 : List (Int × Int)) (i9 : Int) : St U El := ⟨[(0, (.lst .df a0)), (1, (.lst .df b1)), (2, (.int .i64 tolerance2)), (7, (.ful 7)), (8, (.ful 8)), (9, (.int .i64 i9))], [(7, (.rows .bool used7)), (8, (.rows .pair out8))]⟩
noncomputable def fr4 (a0 : List Df) (b1 : List Df) (tolerance2 : Int) (used7 : List Bool) (out8 : List (Int × Int)) (i9 : Int) (k10 : Int) : St U El := ⟨[(0, (.lst .df a0)), (1, (.lst .df b1)), (2, (.int .i64 tolerance2)), (7, (.ful 7)), (8, (.ful 8)), (9, (.int .i64 i9)), (10, (.int .i64 k10))], [(7, (.rows .bool used7)), (8, (.rows .pair out8))]⟩
noncomputable def fr5 (a0 : List Df) (b1 : List Df) (tolerance2 : Int) (used7 : List Bool) (out8 : List (Int × Int)) (i9 : Int) (k10 : Int) : St U El := ⟨[(0, (.lst .df a0)), (1, (.lst .df b1)), (2, (.int .i64 tolerance2)), (7, (.ful 7)), (8, (.ful 8)), (9, (.int .i64 i9)), (10, (.int .i64 k10))], [(7, (.rows .bool used7)), (8, (.rows .pair out8))]⟩
noncomputable def sh0 (a : List Df) (b : List Df) (t : Int) (k2 : (List Df) → (List Df) → Int → (List Bool) → (List (Int × Int)) → Int → R) : R :=
  chk (ile 0 (Int.ofNat (List.length b)) && ile (Int.ofNat (List.length b)) (Int.ofNat (List.length b)) && ile ((Int.ofNat (List.length b)) * 1) 140737488355328) (k2 a b t (List.replicate (Int.toNat (Int.ofNat (List.length b))) d_bool) ([] : List (Int × Int)) (0 : Int))
noncomputable def sh1 (out8 : List (Int × Int)) : R :=
  some ((.ful 0), [(0, .rows .pair out8)])
noncomputable def sh2 (a0 : List Df) (b1 : List Df) (tolerance2 : Int) (used7 : List Bool) (out8 : List (Int × Int)) (i9 : Int) (k1 : (List (Int × Int)) → R) (k4 : (List Df) → (List Df) → Int → (List Bool) → (List (Int × Int)) → Int → Int → R) : R :=
  condB (ilt i9 (Int.ofNat (List.length a0))) (k4 a0 b1 tolerance2 used7 out8 i9 (0 : Int)) (k1 out8)
noncomputable def sh3 (a0 : List Df) (b1 : List Df) (tolerance2 : Int) (used7 : List Bool) (out8 : List (Int × Int)) (i9 : Int) (k2 : (List Df) → (List Df) → Int → (List Bool) → (List (Int × Int)) → Int → R) : R :=
  k2 a0 b1 tolerance2 used7 out8 (IntKind.wrap .i64 (i9 + (1 : Int)))
noncomputable def sh4 (a0 : List Df) (b1 : List Df) (tolerance2 : Int) (used7 : List Bool) (out8 : List (Int × Int)) (i9 : Int) (k10 : Int) (k3 : (List Df) → (List Df) → Int → (List Bool) → (List (Int × Int)) → Int → R) (k5 : (List Df) → (List Df) → Int → (List Bool) → (List (Int × Int)) → Int → Int → R) : R :=
  condB (ilt k10 (Int.ofNat (List.length b1))) (chk (inb k10 (List.length used7)) (chk (nlt (Int.toNat k10) (List.length used7)) (condB (!(List.getD used7 (Int.toNat k10) d_bool)) (chk (inb i9 (List.length a0)) (chk (inb k10 (List.length b1)) (condB (((List.getD a0 (Int.toNat i9) d_df).c) == ((List.getD b1 (Int.toNat k10) d_df).c)) (chk (inb i9 (List.length a0)) (chk (inb k10 (List.length b1)) (condB (ile (IntKind.wrap .i64 ((List.getD a0 (Int.toNat i9) d_df).a - (List.getD b1 (Int.toNat k10) d_df).a)) tolerance2) (chk (inb k10 (List.length b1)) (chk (inb i9 (List.length a0)) (condB (ile (IntKind.wrap .i64 ((List.getD b1 (Int.toNat k10) d_df).a - (List.getD a0 (Int.toNat i9) d_df).a)) tolerance2) (chk (inb k10 (List.length used7)) (chk (nlt (Int.toNat k10) (List.length used7) && true) (chk (nle ((List.length out8 + List.length ([(⟨i9, k10⟩ : Int × Int)] : List (Int × Int))) * 16) 140737488355328 && nle (List.length out8 + List.length ([(⟨i9, k10⟩ : Int × Int)] : List (Int × Int))) 9223372036854775807) (k3 a0 b1 tolerance2 (List.set used7 (Int.toNat k10) true) (out8 ++ ([(⟨i9, k10⟩ : Int × Int)] : List (Int × Int))) i9)))) (k5 a0 b1 tolerance2 used7 out8 i9 k10)))) (k5 a0 b1 tolerance2 used7 out8 i9 k10)))) (k5 a0 b1 tolerance2 used7 out8 i9 k10)))) (k5 a0 b1 tolerance2 used7 out8 i9 k10)))) (k3 a0 b1 tolerance2 used7 out8 i9)
noncomputable def sh5 (a0 : List Df) (b1 : List Df) (tolerance2 : Int) (used7 : List Bool) (out8 : List (Int × Int)) (i9 : Int) (k10 : Int) (k4 : (List Df) → (List Df) → Int → (List Bool) → (List (Int × Int)) → Int → Int → R) : R :=
  k4 a0 b1 tolerance2 used7 out8 i9 (IntKind.wrap .i64 (k10 + (1 : Int)))
noncomputable def it2 (Kb1 : Kont U El) (n : Nat) : Kont U El := iter nm2 (fun st' K' => exec X (cdp [1, 1, 1, 0, 1, 0, 0] bd) (.seq none .d (.seq (some nm3) (.block (.seq none .d (.block (.loop nm4 (.seq none .d (.seq (some nm5) .d .d)))))) .d)) st' K' (Eblk 0 (cutK nm1 Kb1) (fun _ _ => none)) RR) n
noncomputable def it4 (Kb1 : Kont U El) (Kb3 : Kont U El) (n : Nat) : Kont U El := iter nm4 (fun st' K' => exec X (cdp [1, 1, 1, 0, 1, 0, 0, 1, 0, 0, 1, 0, 0] bd) (.seq none .d (.seq (some nm5) .d .d)) st' K' (Eblk 2 (cutK nm3 Kb3) (Eblk 1 (cutK nm3 Kb3) (Eblk 0 (cutK nm1 Kb1) (fun _ _ => none)))) RR) n
noncomputable def ct1 : Kont U El := fun st => exec X (cdp [1, 1, 1, 1] bd) .d st RR (fun _ _ => none) RR
noncomputable def ct3 (Kb1 : Kont U El) (Kb2 : Kont U El) : Kont U El := fun st => exec X (cdp [1, 1, 1, 0, 1, 0, 0, 1, 1] bd) .d st (cutK nm2 Kb2) (Eblk 0 (cutK nm1 Kb1) (fun _ _ => none)) RR
noncomputable def ct5 (Kb1 : Kont U El) (Kb3 : Kont U El) (Kb4 : Kont U El) : Kont U El := fun st => exec X (cdp [1, 1, 1, 0, 1, 0, 0, 1, 0, 0, 1, 0, 0, 1, 1] bd) .d st (cutK nm4 Kb4) (Eblk 2 (cutK nm3 Kb3) (Eblk 1 (cutK nm3 Kb3) (Eblk 0 (cutK nm1 Kb1) (fun _ _ => none)))) RR
theorem P0 (a : List Df) (b : List Df) (t : Int) : exec X (cdp [] bd) (.seq none .d (.seq none .d (.seq none .d (.seq (some nm1) (.seq none .d (.block (.loop nm2 (.seq none .d (.seq (some nm3) (.block (.seq none .d (.block (.loop nm4 (.seq none .d (.seq (some nm5) .d .d)))))) .d))))) .d)))) (fr0 a b t) RR (fun _ _ => none) RR = sh0 a b t (fun y0 y1 y2 y3 y4 y5 => (hid (it2 (hid ct1) 100000)) (fr2 y0 y1 y2 y3 y4 y5)) := by kernel_rfl
theorem P1 (out8 : List (Int × Int)) : exec X (cdp [1, 1, 1, 1] bd) .d (fr1 out8) RR (fun _ _ => none) RR = sh1 out8 := by kernel_rfl
theorem P2 (a0 : List Df) (b1 : List Df) (tolerance2 : Int) (used7 : List Bool) (out8 : List (Int × Int)) (i9 : Int) (Kb1 : Kont U El) (Kb2 : Kont U El) : exec X (cdp [1, 1, 1, 0, 1, 0, 0] bd) (.seq none .d (.seq (some nm3) (.block (.seq none .d (.block (.loop nm4 (.seq none .d (.seq (some nm5) .d .d)))))) .d)) (fr2 a0 b1 tolerance2 used7 out8 i9) (cutK nm2 Kb2) (Eblk 0 (cutK nm1 Kb1) (fun _ _ => none)) RR = sh2 a0 b1 tolerance2 used7 out8 i9 (fun y0 => Kb1 (fr1 y0)) (fun y0 y1 y2 y3 y4 y5 y6 => (hid (it4 Kb1 (hid (ct3 Kb1 Kb2)) 100000)) (fr4 y0 y1 y2 y3 y4 y5 y6)) := by kernel_rfl
theorem P3 (a0 : List Df) (b1 : List Df) (tolerance2 : Int) (used7 : List Bool) (out8 : List (Int × Int)) (i9 : Int) (Kb1 : Kont U El) (Kb2 : Kont U El) : exec X (cdp [1, 1, 1, 0, 1, 0, 0, 1, 1] bd) .d (fr3 a0 b1 tolerance2 used7 out8 i9) (cutK nm2 Kb2) (Eblk 0 (cutK nm1 Kb1) (fun _ _ => none)) RR = sh3 a0 b1 tolerance2 used7 out8 i9 (fun y0 y1 y2 y3 y4 y5 => Kb2 (fr2 y0 y1 y2 y3 y4 y5)) := by kernel_rfl
theorem P4 (a0 : List Df) (b1 : List Df) (tolerance2 : Int) (used7 : List Bool) (out8 : List (Int × Int)) (i9 : Int) (k10 : Int) (Kb1 : Kont U El) (Kb3 : Kont U El) (Kb4 : Kont U El) : exec X (cdp [1, 1, 1, 0, 1, 0, 0, 1, 0, 0, 1, 0, 0] bd) (.seq none .d (.seq (some nm5) .d .d)) (fr4 a0 b1 tolerance2 used7 out8 i9 k10) (cutK nm4 Kb4) (Eblk 2 (cutK nm3 Kb3) (Eblk 1 (cutK nm3 Kb3) (Eblk 0 (cutK nm1 Kb1) (fun _ _ => none)))) RR = sh4 a0 b1 tolerance2 used7 out8 i9 k10 (fun y0 y1 y2 y3 y4 y5 => Kb3 (fr3 y0 y1 y2 y3 y4 y5)) (fun y0 y1 y2 y3 y4 y5 y6 => (hid (ct5 Kb1 Kb3 Kb4)) (fr5 y0 y1 y2 y3 y4 y5 y6)) := by kernel_rfl
theorem P5 (a0 : List Df) (b1 : List Df) (tolerance2 : Int) (used7 : List Bool) (out8 : List (Int × Int)) (i9 : Int) (k10 : Int) (Kb1 : Kont U El) (Kb3 : Kont U El) (Kb4 : Kont U El) : exec X (cdp [1, 1, 1, 0, 1, 0, 0, 1, 0, 0, 1, 0, 0, 1, 1] bd) .d (fr5 a0 b1 tolerance2 used7 out8 i9 k10) (cutK nm4 Kb4) (Eblk 2 (cutK nm3 Kb3) (Eblk 1 (cutK nm3 Kb3) (Eblk 0 (cutK nm1 Kb1) (fun _ _ => none)))) RR = sh5 a0 b1 tolerance2 used7 out8 i9 k10 (fun y0 y1 y2 y3 y4 y5 y6 => Kb4 (fr4 y0 y1 y2 y3 y4 y5 y6)) := by kernel_rfl
noncomputable def f1 (out8 : List (Int × Int)) : R := sh1 out8
noncomputable def f3 (k2 : (List Df) → (List Df) → Int → (List Bool) → (List (Int × Int)) → Int → R) (a0 : List Df) (b1 : List Df) (tolerance2 : Int) (used7 : List Bool) (out8 : List (Int × Int)) (i9 : Int) : R := sh3 a0 b1 tolerance2 used7 out8 i9 k2
noncomputable def f5 (k2 : (List Df) → (List Df) → Int → (List Bool) → (List (Int × Int)) → Int → R) (k4 : (List Df) → (List Df) → Int → (List Bool) → (List (Int × Int)) → Int → Int → R) (a0 : List Df) (b1 : List Df) (tolerance2 : Int) (used7 : List Bool) (out8 : List (Int × Int)) (i9 : Int) (k10 : Int) : R := sh5 a0 b1 tolerance2 used7 out8 i9 k10 k4
noncomputable def f4 (k2 : (List Df) → (List Df) → Int → (List Bool) → (List (Int × Int)) → Int → R) : Nat → (List Df) → (List Df) → Int → (List Bool) → (List (Int × Int)) → Int → Int → R
  | 0 => fun _ _ _ _ _ _ _ => none
  | n + 1 => fun a0 b1 tolerance2 used7 out8 i9 k10 => sh4 a0 b1 tolerance2 used7 out8 i9 k10 (f3 k2) (f5 k2 (f4 k2 n))
noncomputable def f2 : Nat → (List Df) → (List Df) → Int → (List Bool) → (List (Int × Int)) → Int → R
  | 0 => fun _ _ _ _ _ _ => none
  | n + 1 => fun a0 b1 tolerance2 used7 out8 i9 => sh2 a0 b1 tolerance2 used7 out8 i9 f1 (f4 (f2 n) 100000)
noncomputable def f0 (a : List Df) (b : List Df) (t : Int) : R := sh0 a b t (f2 100000)
theorem T1 (out8 : List (Int × Int)) : (hid ct1) (fr1 out8) = f1 out8 := by
  refine (congrFun (hid_eq _) _).trans <| (P1 out8).trans ?_
  show _ = sh1 out8
  rfl
theorem T3 (KL2 : Kont U El) (k2 : (List Df) → (List Df) → Int → (List Bool) → (List (Int × Int)) → Int → R) (h2 : ∀ a0 b1 tolerance2 used7 out8 i9, KL2 (fr2 a0 b1 tolerance2 used7 out8 i9) = k2 a0 b1 tolerance2 used7 out8 i9) (a0 : List Df) (b1 : List Df) (tolerance2 : Int) (used7 : List Bool) (out8 : List (Int × Int)) (i9 : Int) : (hid (ct3 (hid ct1) KL2)) (fr3 a0 b1 tolerance2 used7 out8 i9) = f3 k2 a0 b1 tolerance2 used7 out8 i9 := by
  refine (congrFun (hid_eq _) _).trans <| (P3 a0 b1 tolerance2 used7 out8 i9 (hid ct1) KL2).trans ?_
  show _ = sh3 a0 b1 tolerance2 used7 out8 i9 k2
  simp only [h2]
theorem T5 (KL2 : Kont U El) (KL4 : Kont U El) (k2 : (List Df) → (List Df) → Int → (List Bool) → (List (Int × Int)) → Int → R) (k4 : (List Df) → (List Df) → Int → (List Bool) → (List (Int × Int)) → Int → Int → R) (h2 : ∀ a0 b1 tolerance2 used7 out8 i9, KL2 (fr2 a0 b1 tolerance2 used7 out8 i9) = k2 a0 b1 tolerance2 used7 out8 i9) (h4 : ∀ a0 b1 tolerance2 used7 out8 i9 k10, KL4 (fr4 a0 b1 tolerance2 used7 out8 i9 k10) = k4 a0 b1 tolerance2 used7 out8 i9 k10) (a0 : List Df) (b1 : List Df) (tolerance2 : Int) (used7 : List Bool) (out8 : List (Int × Int)) (i9 : Int) (k10 : Int) : (hid (ct5 (hid ct1) (hid (ct3 (hid ct1) KL2)) KL4)) (fr5 a0 b1 tolerance2 used7 out8 i9 k10) = f5 k2 k4 a0 b1 tolerance2 used7 out8 i9 k10 := by
  refine (congrFun (hid_eq _) _).trans <| (P5 a0 b1 tolerance2 used7 out8 i9 k10 (hid ct1) (hid (ct3 (hid ct1) KL2)) KL4).trans ?_
  show _ = sh5 a0 b1 tolerance2 used7 out8 i9 k10 k4
  simp only [h4]
theorem T4 (KL2 : Kont U El) (k2 : (List Df) → (List Df) → Int → (List Bool) → (List (Int × Int)) → Int → R) (h2 : ∀ a0 b1 tolerance2 used7 out8 i9, KL2 (fr2 a0 b1 tolerance2 used7 out8 i9) = k2 a0 b1 tolerance2 used7 out8 i9) : ∀ (n : Nat), ∀ a0 b1 tolerance2 used7 out8 i9 k10, it4 (hid ct1) (hid (ct3 (hid ct1) KL2)) n (fr4 a0 b1 tolerance2 used7 out8 i9 k10) = f4 k2 n a0 b1 tolerance2 used7 out8 i9 k10 := by
  intro n
  induction n with
  | zero => intros; rfl
  | succ n ih =>
    intro a0 b1 tolerance2 used7 out8 i9 k10
    refine (P4 a0 b1 tolerance2 used7 out8 i9 k10 (hid ct1) (hid (ct3 (hid ct1) KL2)) (it4 (hid ct1) (hid (ct3 (hid ct1) KL2)) n)).trans ?_
    show _ = sh4 a0 b1 tolerance2 used7 out8 i9 k10 (f3 k2) (f5 k2 (f4 k2 n))
    simp only [T3 KL2 k2 h2, T5 KL2 (it4 (hid ct1) (hid (ct3 (hid ct1) KL2)) n) k2 (f4 k2 n) h2 ih]
theorem H4 (KL2 : Kont U El) (k2 : (List Df) → (List Df) → Int → (List Bool) → (List (Int × Int)) → Int → R) (h2 : ∀ a0 b1 tolerance2 used7 out8 i9, KL2 (fr2 a0 b1 tolerance2 used7 out8 i9) = k2 a0 b1 tolerance2 used7 out8 i9) (a0 : List Df) (b1 : List Df) (tolerance2 : Int) (used7 : List Bool) (out8 : List (Int × Int)) (i9 : Int) (k10 : Int) : hid (it4 (hid ct1) (hid (ct3 (hid ct1) KL2)) 100000) (fr4 a0 b1 tolerance2 used7 out8 i9 k10) = f4 k2 100000 a0 b1 tolerance2 used7 out8 i9 k10 := (congrFun (hid_eq _) _).trans (T4 KL2 k2 h2 100000 a0 b1 tolerance2 used7 out8 i9 k10)
theorem T2 : ∀ (n : Nat), ∀ a0 b1 tolerance2 used7 out8 i9, it2 (hid ct1) n (fr2 a0 b1 tolerance2 used7 out8 i9) = f2 n a0 b1 tolerance2 used7 out8 i9 := by
  intro n
  induction n with
  | zero => intros; rfl
  | succ n ih =>
    intro a0 b1 tolerance2 used7 out8 i9
    refine (P2 a0 b1 tolerance2 used7 out8 i9 (hid ct1) (it2 (hid ct1) n)).trans ?_
    show _ = sh2 a0 b1 tolerance2 used7 out8 i9 f1 (f4 (f2 n) 100000)
    simp only [T1, H4 (it2 (hid ct1) n) (f2 n) ih]
theorem H2 (a0 : List Df) (b1 : List Df) (tolerance2 : Int) (used7 : List Bool) (out8 : List (Int × Int)) (i9 : Int) : hid (it2 (hid ct1) 100000) (fr2 a0 b1 tolerance2 used7 out8 i9) = f2 100000 a0 b1 tolerance2 used7 out8 i9 := (congrFun (hid_eq _) _).trans (T2 100000 a0 b1 tolerance2 used7 out8 i9)
theorem T0 (a : List Df) (b : List Df) (t : Int) : exec X bd (.seq none .d (.seq none .d (.seq none .d (.seq (some nm1) (.seq none .d (.block (.loop nm2 (.seq none .d (.seq (some nm3) (.block (.seq none .d (.block (.loop nm4 (.seq none .d (.seq (some nm5) .d .d)))))) .d))))) .d)))) (fr0 a b t) RR (fun _ _ => none) RR = f0 a b t := by
  refine (P0 a b t).trans ?_
  show _ = sh0 a b t (f2 100000)
  simp only [H2]
theorem run (a : List Df) (b : List Df) (t : Int) : runFn X bd (.seq none .d (.seq none .d (.seq none .d (.seq (some nm1) (.seq none .d (.block (.loop nm2 (.seq none .d (.seq (some nm3) (.block (.seq none .d (.block (.loop nm4 (.seq none .d (.seq (some nm5) .d .d)))))) .d))))) .d)))) nmR [6] [6] [(.lst .df a), (.lst .df b), (.int .i64 t)] = f0 a b t := T0 a b t
theorem inner (a b : List Df) (t : Int) (used : List Bool) (out : List (Int × Int)) (i : Nat) (hi2 : i < a.length) (hb : okW b = true) (hx : 0 ≤ a[i].a ∧ a[i].a ≤ 16777216) (hu : used.length = b.length) (ho : out.length ≤ i) (hi : i ≤ 1000)
    (k2 : (List Df) → (List Df) → Int → (List Bool) → (List (Int × Int)) → Int → R) : ∀ (n k : Nat), b.length < n + k → k ≤ b.length →
    f4 k2 n a b t used out (i : Int) (k : Int) = match fm t a[i] k (b.drop k) (used.drop k) with
      | some j => k2 a b t (used.set j true) (out ++ [((i : Int), (j : Int))]) ((i + 1 : Nat) : Int)
      | none => k2 a b t used out ((i + 1 : Nat) : Int) := by
  have hl := okW_len hb
  intro n
  induction n with
  | zero => intro k h1 h2; omega
  | succ n ih =>
    intro k h1 h2
    show sh4 a b t used out i k (f3 k2) (f5 k2 (f4 k2 n)) = _
    unfold sh4
    by_cases hk : k < b.length
    · have hk' : k < used.length := by omega
      obtain ⟨hd, ha1, ha2⟩ := okW_at hb hk
      rw [iltT (by simp; omega), inbT hk, inbT hk', inbT hi2, toNat_nat, toNat_nat, nltT hk', getD_lt hk, getD_lt hk', getD_lt hi2, wrapI (x := a[i].a - b[k].a) (by omega) (by omega), wrapI (x := b[k].a - a[i].a) (by omega) (by omega), app_ok (by omega), drop_lt hk, drop_lt hk']
      simp only [fm, nearB, f5, sh5, f3, sh3, wrapS k (show k ≤ 1000000 by omega), wrapS i (show i ≤ 1000000 by omega)]
      cases used[k]
      · cases a[i].c == b[k].c
        · exact ih (k + 1) (by omega) (by omega)
        · cases ile (a[i].a - b[k].a) t
          · exact ih (k + 1) (by omega) (by omega)
          · cases ile (b[k].a - a[i].a) t
            · exact ih (k + 1) (by omega) (by omega)
            · rfl
      · exact ih (k + 1) (by omega) (by omega)
    · have : k = b.length := by omega
      subst this
      rw [iltF (by simp), List.drop_length]
      simp only [fm, f3, sh3, wrapS i (show i ≤ 1000000 by omega)]
      rfl
theorem loop (a b : List Df) (t : Int) (ha : okW a = true) (hb : okW b = true) : ∀ (n i : Nat) (used : List Bool) (out : List (Int × Int)), a.length < n + i → i ≤ a.length → used.length = b.length → out.length ≤ i →
    f2 n a b t used out (i : Int) = some (.ful 0, [(0, .rows .pair (mrun t b i (a.drop i) used out))]) := by
  have hl := okW_len ha
  have hlb := okW_len hb
  intro n
  induction n with
  | zero => intro i used out h1 h2; omega
  | succ n ih =>
    intro i used out h1 h2 hu ho
    show sh2 a b t used out i f1 (f4 (f2 n) 100000) = _
    unfold sh2
    by_cases hi : i < a.length
    · rw [iltT (by simp; omega), drop_lt hi]
      refine (inner a b t used out i hi hb (okW_at ha hi).2 hu ho (by omega) (f2 n) 100000 0 (by omega) (by omega)).trans ?_
      simp only [List.drop_zero, mrun]
      cases fm t a[i] 0 b used with
      | none => exact ih (i + 1) used out (by omega) (by omega) hu (by omega)
      | some j => exact ih (i + 1) _ _ (by omega) (by omega) (by simpa using hu) (by simp; omega)
    · have : i = a.length := by omega
      subst this
      rw [iltF (by simp), List.drop_length]
      rfl
theorem f0_eq (a b : List Df) (t : Int) (h : (okW a && okW b) = true) : f0 a b t = some (.ful 0, [(0, .rows .pair (mrun t b 0 a (List.replicate b.length false) []))]) := by
  obtain ⟨ha, hb⟩ := (Bool.and_eq_true _ _).mp h
  have hlb := okW_len hb
  have hla := okW_len ha
  unfold f0 sh0
  rw [ileT (show (0 : Int) ≤ Int.ofNat b.length by simp), ileT (Int.le_refl _), ileT (show Int.ofNat b.length * 1 ≤ 140737488355328 by simp; omega)]
  exact loop a b t ha hb 100000 0 (List.replicate b.length false) [] (by omega) (by omega) (by simp) (by simp)
theorem ok : CtxOk Tryd.prog X := ctxOk tab (by
  intro p hp
  cases hp)
theorem okM : MOk Tryd.prog X := fun g sp h => by cases h
theorem spec (a : List Df) (b : List Df) (t : Int) (h : ((okW a && okW b)) = true) : CallSpec Tryd.prog E 26 [(.lst .df a), (.lst .df b), (.int .i64 t)] (.ful 0) [(0, .rows .pair (mrun t b 0 a (List.replicate (List.length b) false) []))] :=
  runFn_sound ok okM Tryd.call26 Tryd.func26 (by kernel_rfl) (by kernel_rfl) (by kernel_rfl) (by show 3 ≤ 84; decide) (by decide) (by rfl) ((run a b t).trans (f0_eq a b t h))
noncomputable def sp : Sp U El := fun args k => match args with
  | [.lst .df a, .lst .df b, .int .i64 t] => chk ((okW a && okW b)) (k (.ful 0) [(0, .rows .pair (mrun t b 0 a (List.replicate (List.length b) false) []))])
  | _ => none
theorem spOk : SpOk Tryd.prog E 26 sp where
  det := fun vs => by
    unfold sp
    split
    · rename_i a b t
      cases hb : ((okW a && okW b))
      · exact ⟨none, fun _ => rfl⟩
      · exact ⟨some (_, _), fun _ => rfl⟩
    · exact ⟨none, fun _ => rfl⟩
  ok := fun vs k r h => by
    unfold sp at h
    split at h
    · obtain ⟨h1, h2⟩ := chk_some h
      exact ⟨_, _, spec _ _ _ h1, h2⟩
    · cases h
end rmatch
end Go.Proofs.YtnhmhcobpbilhaaDoor
