/- slices.Compact and slices.Concat of defects, by the lift. -/
import Derived.Test.YtnhmhcobpbilhaaDoorVD
import Derived.Test.YtnhmhcobpbilhaaDoorGC
import Derived.Test.YtnhmhcobpbilhaaDoorSO
namespace Go.Proofs.YtnhmhcobpbilhaaDoor
set_option linter.unusedSectionVars false
set_option linter.unusedSimpArgs false
set_option linter.unusedVariables false
set_option maxRecDepth 100000

theorem nltT {a b : Nat} (h : a < b) : nlt a b = true := decide_eq_true h
theorem wrapP (m : Nat) (h0 : 1 ≤ m) (h : m ≤ 1000000) : IntKind.wrap .i64 ((m : Int) - 1) = ((m - 1 : Nat) : Int) := by rw [wrapI (by omega) (by omega)]; omega

noncomputable def eqDf (x y : Df) : Bool := (x.c == y.c) && ((x.a == y.a) && ((x.l == y.l) && ((x.s == y.s) && true)))
theorem eqDf_iff {x y : Df} : eqDf x y = true ↔ x = y := by
  unfold eqDf
  constructor
  · intro h
    simp only [Bool.and_eq_true, beq_iff_eq, and_true] at h
    obtain ⟨h1, h2, h3, h4⟩ := h
    cases x; cases y
    simp only at h1 h2 h3 h4
    rw [h1, h2, h3, h4]
  · rintro rfl; simp
/-- the elements that are not as the one before them -/
noncomputable def compA : Df → List Df → List Df
  | _, [] => []
  | p, x :: l => bif eqDf x p then compA p l else x :: compA x l
noncomputable def compactL : List Df → List Df
  | [] => []
  | x :: l => x :: compA x l

namespace compactF
noncomputable def bd : Code := (Tryd.f50.body).getD .skip
noncomputable def X : Ctx U El := ⟨E, tds, zeros, eqs, specOf [], 100000, 61, fun _ => none⟩
noncomputable def nmR : Norm U := ⟨[(2, .df)], [2], [2], [], [], []⟩
noncomputable def RR : Kont U El := fun st => normK nmR st (retM [2])
noncomputable def nm1 : Norm U := ⟨[], [0], [1000000000], [], [], []⟩
noncomputable def nm2 : Norm U := ⟨[], [0, 3], [1000000000], [], [], []⟩
noncomputable def nm3 : Norm U := ⟨[], [0, 3], [1000000000], [], [], []⟩
noncomputable def nm4 : Norm U := ⟨[], [0, 3], [1000000000], [], [], []⟩
noncomputable def nm5 : Norm U := ⟨[], [0, 3, 4, 5], [1000000000], [], [], []⟩
noncomputable def nm6 : Norm U := ⟨[], [0, 3, 4, 5], [1000000000], [], [], []⟩
noncomputable def fr0 (l : List Df) : St U El := ⟨[(0, (.ful 1000000000))], [(1000000000, (.rows .df l))]⟩
noncomputable def fr1 (hr0 : List Df) : St U El := ⟨[(0, (.ful 1000000000))], [(1000000000, (.rows .df hr0))]⟩
noncomputable def fr2 (kv3 : Int) (hr0 : List Df) : St U El := ⟨[(0, (.ful 1000000000)), (3, (.int .i64 kv3))], [(1000000000, (.rows .df hr0))]⟩
noncomputable def fr3 (kv3 : Int) (hr0 : List Df) : St U El := ⟨[(0, (.ful 1000000000)), (3, (.int .i64 kv3))], [(1000000000, (.rows .df hr0))]⟩
noncomputable def fr4 (kv3 : Int) (hr0 : List Df) : St U El := ⟨[(0, (.ful 1000000000)), (3, (.int .i64 kv3))], [(1000000000, (.rows .df hr0))]⟩
noncomputable def fr5 (kv3 : Int) (s24_lo : Nat) (s24_n : Nat) (k25 : Int) (hr0 : List Df) : St U El := ⟨[(0, (.ful 1000000000)), (3, (.int .i64 kv3)), (4, (.own 1000000000 s24_lo s24_n)), (5, (.int .i64 k25))], [(1000000000, (.rows .df hr0))]⟩
noncomputable def fr6 (kv3 : Int) (s24_lo : Nat) (s24_n : Nat) (k25 : Int) (hr0 : List Df) : St U El := ⟨[(0, (.ful 1000000000)), (3, (.int .i64 kv3)), (4, (.own 1000000000 s24_lo s24_n)), (5, (.int .i64 k25))], [(1000000000, (.rows .df hr0))]⟩
noncomputable def sh0 (l : List Df) (k2 : Int → (List Df) → R) : R :=
  condB (ilt (Int.ofNat (List.length l)) (2 : Int)) (some ((.ful 2), [(2, .rows .df l)])) (k2 (1 : Int) l)
noncomputable def sh1 (hr0 : List Df) : R :=
  some ((.ful 2), [(2, .rows .df hr0)])
noncomputable def sh2 (kv3 : Int) (hr0 : List Df) (k1 : (List Df) → R) (k3 : Int → (List Df) → R) (k5 : Int → Nat → Nat → Int → (List Df) → R) : R :=
  condB (ilt kv3 (Int.ofNat (List.length hr0))) (chk (inb kv3 (List.length hr0)) (chk (nlt (Int.toNat kv3) (List.length hr0)) (chk (inb (IntKind.wrap .i64 (kv3 - (1 : Int))) (List.length hr0)) (chk (nlt (Int.toNat (IntKind.wrap .i64 (kv3 - (1 : Int)))) (List.length hr0)) (condB (((List.getD hr0 (Int.toNat kv3) d_df).c == (List.getD hr0 (Int.toNat (IntKind.wrap .i64 (kv3 - (1 : Int)))) d_df).c) && (((List.getD hr0 (Int.toNat kv3) d_df).a == (List.getD hr0 (Int.toNat (IntKind.wrap .i64 (kv3 - (1 : Int)))) d_df).a) && (((List.getD hr0 (Int.toNat kv3) d_df).l == (List.getD hr0 (Int.toNat (IntKind.wrap .i64 (kv3 - (1 : Int)))) d_df).l) && (((List.getD hr0 (Int.toNat kv3) d_df).s == (List.getD hr0 (Int.toNat (IntKind.wrap .i64 (kv3 - (1 : Int)))) d_df).s) && true)))) (chk (ile 0 kv3 && ile kv3 (Int.ofNat (List.length hr0)) && ile (Int.ofNat (List.length hr0)) (Int.ofNat (List.length hr0))) (k5 kv3 (Int.toNat kv3) (Int.toNat (Int.ofNat (List.length hr0)) - (Int.toNat kv3)) (1 : Int) hr0)) (k3 kv3 hr0)))))) (k1 hr0)
noncomputable def sh3 (kv3 : Int) (hr0 : List Df) (k2 : Int → (List Df) → R) : R :=
  k2 (IntKind.wrap .i64 (kv3 + (1 : Int))) hr0
noncomputable def sh4 (kv3 : Int) (hr0 : List Df) : R :=
  chk (ile 0 kv3 && ile kv3 (Int.ofNat (List.length hr0)) && ile (Int.ofNat (List.length hr0)) (Int.ofNat (List.length hr0))) (chk (true && (nlt 0 (Int.toNat (Int.ofNat (List.length hr0)) - (Int.toNat kv3)) && nle ((Int.toNat kv3) + (Int.toNat (Int.ofNat (List.length hr0)) - (Int.toNat kv3))) (List.length hr0))) (chk (ile 0 (0 : Int) && ile (0 : Int) kv3 && ile kv3 (Int.ofNat (List.length (List.take (Int.toNat kv3) hr0 ++ (List.replicate (Int.toNat (Int.ofNat (List.length hr0)) - (Int.toNat kv3)) d_df ++ List.drop ((Int.toNat kv3) + (Int.toNat (Int.ofNat (List.length hr0)) - (Int.toNat kv3))) hr0))))) (chk (true && nlt 0 (Int.toNat kv3 - 0)) (some ((.ful 2), [(2, .rows .df (List.take (Int.toNat kv3 - 0) (List.take (Int.toNat kv3) hr0 ++ (List.replicate (Int.toNat (Int.ofNat (List.length hr0)) - (Int.toNat kv3)) d_df ++ List.drop ((Int.toNat kv3) + (Int.toNat (Int.ofNat (List.length hr0)) - (Int.toNat kv3))) hr0))))])))))
noncomputable def sh5 (kv3 : Int) (s24_lo : Nat) (s24_n : Nat) (k25 : Int) (hr0 : List Df) (k4 : Int → (List Df) → R) (k6 : Int → Nat → Nat → Int → (List Df) → R) : R :=
  condB (ilt k25 (Int.ofNat s24_n)) (chk (inb k25 s24_n) (chk (nlt (s24_lo + (Int.toNat k25)) (List.length hr0)) (chk (inb (IntKind.wrap .i64 (k25 - (1 : Int))) s24_n) (chk (nlt (s24_lo + (Int.toNat (IntKind.wrap .i64 (k25 - (1 : Int))))) (List.length hr0)) (condB (!(((List.getD hr0 (s24_lo + (Int.toNat k25)) d_df).c == (List.getD hr0 (s24_lo + (Int.toNat (IntKind.wrap .i64 (k25 - (1 : Int))))) d_df).c) && (((List.getD hr0 (s24_lo + (Int.toNat k25)) d_df).a == (List.getD hr0 (s24_lo + (Int.toNat (IntKind.wrap .i64 (k25 - (1 : Int))))) d_df).a) && (((List.getD hr0 (s24_lo + (Int.toNat k25)) d_df).l == (List.getD hr0 (s24_lo + (Int.toNat (IntKind.wrap .i64 (k25 - (1 : Int))))) d_df).l) && (((List.getD hr0 (s24_lo + (Int.toNat k25)) d_df).s == (List.getD hr0 (s24_lo + (Int.toNat (IntKind.wrap .i64 (k25 - (1 : Int))))) d_df).s) && true))))) (chk (inb k25 s24_n) (chk (nlt (s24_lo + (Int.toNat k25)) (List.length hr0)) (chk (inb kv3 (List.length hr0)) (chk (nlt (Int.toNat kv3) (List.length hr0) && true) (k6 (IntKind.wrap .i64 (kv3 + (1 : Int))) s24_lo s24_n k25 (List.set hr0 (Int.toNat kv3) (List.getD hr0 (s24_lo + (Int.toNat k25)) d_df))))))) (k6 kv3 s24_lo s24_n k25 hr0)))))) (k4 kv3 hr0)
noncomputable def sh6 (kv3 : Int) (s24_lo : Nat) (s24_n : Nat) (k25 : Int) (hr0 : List Df) (k5 : Int → Nat → Nat → Int → (List Df) → R) : R :=
  k5 kv3 s24_lo s24_n (IntKind.wrap .i64 (k25 + (1 : Int))) hr0
noncomputable def it2 (Kb1 : Kont U El) (n : Nat) : Kont U El := iter nm2 (fun st' K' => exec X (cdp [1, 1, 0, 1, 0, 0] bd) (.seq none .d (.seq (some nm3) (.block (.seq none .d (.cond (.seq none .d (.seq (some nm4) (.seq none .d (.block (.loop nm5 (.seq none .d (.seq (some nm6) .d .d))))) .d)) .d))) .d)) st' K' (Eblk 0 (cutK nm1 Kb1) (fun _ _ => none)) RR) n
noncomputable def it5 (Kb1 : Kont U El) (Kb3 : Kont U El) (Kb4 : Kont U El) (n : Nat) : Kont U El := iter nm5 (fun st' K' => exec X (cdp [1, 1, 0, 1, 0, 0, 1, 0, 0, 1, 0, 1, 0, 1, 0, 0] bd) (.seq none .d (.seq (some nm6) .d .d)) st' K' (Eblk 2 (cutK nm4 Kb4) (Eblk 1 (cutK nm3 Kb3) (Eblk 0 (cutK nm1 Kb1) (fun _ _ => none)))) RR) n
noncomputable def ct1 : Kont U El := fun st => exec X (cdp [1, 1, 1] bd) .d st RR (fun _ _ => none) RR
noncomputable def ct3 (Kb1 : Kont U El) (Kb2 : Kont U El) : Kont U El := fun st => exec X (cdp [1, 1, 0, 1, 0, 0, 1, 1] bd) .d st (cutK nm2 Kb2) (Eblk 0 (cutK nm1 Kb1) (fun _ _ => none)) RR
noncomputable def ct4 (Kb1 : Kont U El) (Kb3 : Kont U El) : Kont U El := fun st => exec X (cdp [1, 1, 0, 1, 0, 0, 1, 0, 0, 1, 0, 1, 1] bd) .d st (cutK nm3 Kb3) (Eblk 1 (cutK nm3 Kb3) (Eblk 0 (cutK nm1 Kb1) (fun _ _ => none))) RR
noncomputable def ct6 (Kb1 : Kont U El) (Kb3 : Kont U El) (Kb4 : Kont U El) (Kb5 : Kont U El) : Kont U El := fun st => exec X (cdp [1, 1, 0, 1, 0, 0, 1, 0, 0, 1, 0, 1, 0, 1, 0, 0, 1, 1] bd) .d st (cutK nm5 Kb5) (Eblk 2 (cutK nm4 Kb4) (Eblk 1 (cutK nm3 Kb3) (Eblk 0 (cutK nm1 Kb1) (fun _ _ => none)))) RR
theorem P0 (l : List Df) : exec X (cdp [] bd) (.seq none .d (.seq none .d (.seq (some nm1) (.seq none .d (.block (.loop nm2 (.seq none .d (.seq (some nm3) (.block (.seq none .d (.cond (.seq none .d (.seq (some nm4) (.seq none .d (.block (.loop nm5 (.seq none .d (.seq (some nm6) .d .d))))) .d)) .d))) .d))))) .d))) (fr0 l) RR (fun _ _ => none) RR = sh0 l (fun y0 y1 => (hid (it2 (hid ct1) 100000)) (fr2 y0 y1)) := by kernel_rfl
theorem P1 (hr0 : List Df) : exec X (cdp [1, 1, 1] bd) .d (fr1 hr0) RR (fun _ _ => none) RR = sh1 hr0 := by kernel_rfl
theorem P2 (kv3 : Int) (hr0 : List Df) (Kb1 : Kont U El) (Kb2 : Kont U El) : exec X (cdp [1, 1, 0, 1, 0, 0] bd) (.seq none .d (.seq (some nm3) (.block (.seq none .d (.cond (.seq none .d (.seq (some nm4) (.seq none .d (.block (.loop nm5 (.seq none .d (.seq (some nm6) .d .d))))) .d)) .d))) .d)) (fr2 kv3 hr0) (cutK nm2 Kb2) (Eblk 0 (cutK nm1 Kb1) (fun _ _ => none)) RR = sh2 kv3 hr0 (fun y0 => Kb1 (fr1 y0)) (fun y0 y1 => (hid (ct3 Kb1 Kb2)) (fr3 y0 y1)) (fun y0 y1 y2 y3 y4 => (hid (it5 Kb1 (hid (ct3 Kb1 Kb2)) (hid (ct4 Kb1 (hid (ct3 Kb1 Kb2)))) 100000)) (fr5 y0 y1 y2 y3 y4)) := by kernel_rfl
theorem P3 (kv3 : Int) (hr0 : List Df) (Kb1 : Kont U El) (Kb2 : Kont U El) : exec X (cdp [1, 1, 0, 1, 0, 0, 1, 1] bd) .d (fr3 kv3 hr0) (cutK nm2 Kb2) (Eblk 0 (cutK nm1 Kb1) (fun _ _ => none)) RR = sh3 kv3 hr0 (fun y0 y1 => Kb2 (fr2 y0 y1)) := by kernel_rfl
theorem P4 (kv3 : Int) (hr0 : List Df) (Kb1 : Kont U El) (Kb3 : Kont U El) : exec X (cdp [1, 1, 0, 1, 0, 0, 1, 0, 0, 1, 0, 1, 1] bd) .d (fr4 kv3 hr0) (cutK nm3 Kb3) (Eblk 1 (cutK nm3 Kb3) (Eblk 0 (cutK nm1 Kb1) (fun _ _ => none))) RR = sh4 kv3 hr0 := by kernel_rfl
theorem P5 (kv3 : Int) (s24_lo : Nat) (s24_n : Nat) (k25 : Int) (hr0 : List Df) (Kb1 : Kont U El) (Kb3 : Kont U El) (Kb4 : Kont U El) (Kb5 : Kont U El) : exec X (cdp [1, 1, 0, 1, 0, 0, 1, 0, 0, 1, 0, 1, 0, 1, 0, 0] bd) (.seq none .d (.seq (some nm6) .d .d)) (fr5 kv3 s24_lo s24_n k25 hr0) (cutK nm5 Kb5) (Eblk 2 (cutK nm4 Kb4) (Eblk 1 (cutK nm3 Kb3) (Eblk 0 (cutK nm1 Kb1) (fun _ _ => none)))) RR = sh5 kv3 s24_lo s24_n k25 hr0 (fun y0 y1 => Kb4 (fr4 y0 y1)) (fun y0 y1 y2 y3 y4 => (hid (ct6 Kb1 Kb3 Kb4 Kb5)) (fr6 y0 y1 y2 y3 y4)) := by kernel_rfl
theorem P6 (kv3 : Int) (s24_lo : Nat) (s24_n : Nat) (k25 : Int) (hr0 : List Df) (Kb1 : Kont U El) (Kb3 : Kont U El) (Kb4 : Kont U El) (Kb5 : Kont U El) : exec X (cdp [1, 1, 0, 1, 0, 0, 1, 0, 0, 1, 0, 1, 0, 1, 0, 0, 1, 1] bd) .d (fr6 kv3 s24_lo s24_n k25 hr0) (cutK nm5 Kb5) (Eblk 2 (cutK nm4 Kb4) (Eblk 1 (cutK nm3 Kb3) (Eblk 0 (cutK nm1 Kb1) (fun _ _ => none)))) RR = sh6 kv3 s24_lo s24_n k25 hr0 (fun y0 y1 y2 y3 y4 => Kb5 (fr5 y0 y1 y2 y3 y4)) := by kernel_rfl
noncomputable def f1 (hr0 : List Df) : R := sh1 hr0
noncomputable def f3 (k2 : Int → (List Df) → R) (kv3 : Int) (hr0 : List Df) : R := sh3 kv3 hr0 k2
noncomputable def f4 (k2 : Int → (List Df) → R) (kv3 : Int) (hr0 : List Df) : R := sh4 kv3 hr0
noncomputable def f6 (k2 : Int → (List Df) → R) (k5 : Int → Nat → Nat → Int → (List Df) → R) (kv3 : Int) (s24_lo : Nat) (s24_n : Nat) (k25 : Int) (hr0 : List Df) : R := sh6 kv3 s24_lo s24_n k25 hr0 k5
noncomputable def f5 (k2 : Int → (List Df) → R) : Nat → Int → Nat → Nat → Int → (List Df) → R
  | 0 => fun _ _ _ _ _ => none
  | n + 1 => fun kv3 s24_lo s24_n k25 hr0 => sh5 kv3 s24_lo s24_n k25 hr0 (f4 k2) (f6 k2 (f5 k2 n))
noncomputable def f2 : Nat → Int → (List Df) → R
  | 0 => fun _ _ => none
  | n + 1 => fun kv3 hr0 => sh2 kv3 hr0 f1 (f3 (f2 n)) (f5 (f2 n) 100000)
noncomputable def f0 (l : List Df) : R := sh0 l (f2 100000)
theorem T1 (hr0 : List Df) : (hid ct1) (fr1 hr0) = f1 hr0 := by
  refine (congrFun (hid_eq _) _).trans <| (P1 hr0).trans ?_
  show _ = sh1 hr0
  rfl
theorem T3 (KL2 : Kont U El) (k2 : Int → (List Df) → R) (h2 : ∀ kv3 hr0, KL2 (fr2 kv3 hr0) = k2 kv3 hr0) (kv3 : Int) (hr0 : List Df) : (hid (ct3 (hid ct1) KL2)) (fr3 kv3 hr0) = f3 k2 kv3 hr0 := by
  refine (congrFun (hid_eq _) _).trans <| (P3 kv3 hr0 (hid ct1) KL2).trans ?_
  show _ = sh3 kv3 hr0 k2
  simp only [h2]
theorem T4 (KL2 : Kont U El) (k2 : Int → (List Df) → R) (h2 : ∀ kv3 hr0, KL2 (fr2 kv3 hr0) = k2 kv3 hr0) (kv3 : Int) (hr0 : List Df) : (hid (ct4 (hid ct1) (hid (ct3 (hid ct1) KL2)))) (fr4 kv3 hr0) = f4 k2 kv3 hr0 := by
  refine (congrFun (hid_eq _) _).trans <| (P4 kv3 hr0 (hid ct1) (hid (ct3 (hid ct1) KL2))).trans ?_
  show _ = sh4 kv3 hr0
  rfl
theorem T6 (KL2 : Kont U El) (KL5 : Kont U El) (k2 : Int → (List Df) → R) (k5 : Int → Nat → Nat → Int → (List Df) → R) (h2 : ∀ kv3 hr0, KL2 (fr2 kv3 hr0) = k2 kv3 hr0) (h5 : ∀ kv3 s24_lo s24_n k25 hr0, KL5 (fr5 kv3 s24_lo s24_n k25 hr0) = k5 kv3 s24_lo s24_n k25 hr0) (kv3 : Int) (s24_lo : Nat) (s24_n : Nat) (k25 : Int) (hr0 : List Df) : (hid (ct6 (hid ct1) (hid (ct3 (hid ct1) KL2)) (hid (ct4 (hid ct1) (hid (ct3 (hid ct1) KL2)))) KL5)) (fr6 kv3 s24_lo s24_n k25 hr0) = f6 k2 k5 kv3 s24_lo s24_n k25 hr0 := by
  refine (congrFun (hid_eq _) _).trans <| (P6 kv3 s24_lo s24_n k25 hr0 (hid ct1) (hid (ct3 (hid ct1) KL2)) (hid (ct4 (hid ct1) (hid (ct3 (hid ct1) KL2)))) KL5).trans ?_
  show _ = sh6 kv3 s24_lo s24_n k25 hr0 k5
  simp only [h5]
theorem T5 (KL2 : Kont U El) (k2 : Int → (List Df) → R) (h2 : ∀ kv3 hr0, KL2 (fr2 kv3 hr0) = k2 kv3 hr0) : ∀ (n : Nat), ∀ kv3 s24_lo s24_n k25 hr0, it5 (hid ct1) (hid (ct3 (hid ct1) KL2)) (hid (ct4 (hid ct1) (hid (ct3 (hid ct1) KL2)))) n (fr5 kv3 s24_lo s24_n k25 hr0) = f5 k2 n kv3 s24_lo s24_n k25 hr0 := by
  intro n
  induction n with
  | zero => intros; rfl
  | succ n ih =>
    intro kv3 s24_lo s24_n k25 hr0
    refine (P5 kv3 s24_lo s24_n k25 hr0 (hid ct1) (hid (ct3 (hid ct1) KL2)) (hid (ct4 (hid ct1) (hid (ct3 (hid ct1) KL2)))) (it5 (hid ct1) (hid (ct3 (hid ct1) KL2)) (hid (ct4 (hid ct1) (hid (ct3 (hid ct1) KL2)))) n)).trans ?_
    show _ = sh5 kv3 s24_lo s24_n k25 hr0 (f4 k2) (f6 k2 (f5 k2 n))
    simp only [T4 KL2 k2 h2, T6 KL2 (it5 (hid ct1) (hid (ct3 (hid ct1) KL2)) (hid (ct4 (hid ct1) (hid (ct3 (hid ct1) KL2)))) n) k2 (f5 k2 n) h2 ih]
theorem H5 (KL2 : Kont U El) (k2 : Int → (List Df) → R) (h2 : ∀ kv3 hr0, KL2 (fr2 kv3 hr0) = k2 kv3 hr0) (kv3 : Int) (s24_lo : Nat) (s24_n : Nat) (k25 : Int) (hr0 : List Df) : hid (it5 (hid ct1) (hid (ct3 (hid ct1) KL2)) (hid (ct4 (hid ct1) (hid (ct3 (hid ct1) KL2)))) 100000) (fr5 kv3 s24_lo s24_n k25 hr0) = f5 k2 100000 kv3 s24_lo s24_n k25 hr0 := (congrFun (hid_eq _) _).trans (T5 KL2 k2 h2 100000 kv3 s24_lo s24_n k25 hr0)
theorem T2 : ∀ (n : Nat), ∀ kv3 hr0, it2 (hid ct1) n (fr2 kv3 hr0) = f2 n kv3 hr0 := by
  intro n
  induction n with
  | zero => intros; rfl
  | succ n ih =>
    intro kv3 hr0
    refine (P2 kv3 hr0 (hid ct1) (it2 (hid ct1) n)).trans ?_
    show _ = sh2 kv3 hr0 f1 (f3 (f2 n)) (f5 (f2 n) 100000)
    simp only [T1, T3 (it2 (hid ct1) n) (f2 n) ih, H5 (it2 (hid ct1) n) (f2 n) ih]
theorem H2 (kv3 : Int) (hr0 : List Df) : hid (it2 (hid ct1) 100000) (fr2 kv3 hr0) = f2 100000 kv3 hr0 := (congrFun (hid_eq _) _).trans (T2 100000 kv3 hr0)
theorem T0 (l : List Df) : exec X bd (.seq none .d (.seq none .d (.seq (some nm1) (.seq none .d (.block (.loop nm2 (.seq none .d (.seq (some nm3) (.block (.seq none .d (.cond (.seq none .d (.seq (some nm4) (.seq none .d (.block (.loop nm5 (.seq none .d (.seq (some nm6) .d .d))))) .d)) .d))) .d))))) .d))) (fr0 l) RR (fun _ _ => none) RR = f0 l := by
  refine (P0 l).trans ?_
  show _ = sh0 l (f2 100000)
  simp only [H2]
theorem run (l : List Df) : runM X bd (.seq none .d (.seq none .d (.seq (some nm1) (.seq none .d (.block (.loop nm2 (.seq none .d (.seq (some nm3) (.block (.seq none .d (.cond (.seq none .d (.seq (some nm4) (.seq none .d (.block (.loop nm5 (.seq none .d (.seq (some nm6) .d .d))))) .d)) .d))) .d))))) .d))) nmR [2] [(1000000000, (.rows .df l))] [(.ful 1000000000)] = f0 l := T0 l
noncomputable def outR (z : List Df) : R := some (.ful 2, [(2, .rows .df z)])
theorem fin (K : Int → List Df → R) (hr : List Df) (k : Nat) (h0 : 0 < k) (h1 : k < hr.length) (h2 : hr.length ≤ 1000000) : f4 K (k : Int) hr = outR (hr.take k) := by
  have hlen : (List.take k hr ++ (List.replicate (hr.length - k) d_df ++ List.drop (k + (hr.length - k)) hr)).length = hr.length := by simp; omega
  show sh4 (k : Int) hr = _
  unfold sh4
  simp only [toNat_nat, show Int.toNat (Int.ofNat hr.length) = hr.length from rfl, hlen, Nat.sub_zero]
  rw [ileT (show (0 : Int) ≤ (k : Int) by omega), ileT (show (k : Int) ≤ Int.ofNat hr.length by simp; omega), ileT (Int.le_refl (Int.ofNat hr.length)), nltT (show 0 < hr.length - k by omega), nleT (show k + (hr.length - k) ≤ hr.length by omega), ileT (Int.le_refl 0), nltT h0]
  have : List.take k (List.take k hr ++ (List.replicate (hr.length - k) d_df ++ List.drop (k + (hr.length - k)) hr)) = List.take k hr := by
    rw [List.take_append_of_le_length (by simp; omega), List.take_take, Nat.min_self]
  exact congrArg outR this
theorem inner (K : Int → List Df → R) (lo cnt : Nat) (hlo : 0 < lo) : ∀ (n m k : Nat) (hr : List Df), cnt < n + m → 1 ≤ m → m ≤ cnt → lo + cnt = hr.length → 0 < k → k + 1 ≤ lo + m → hr.length ≤ 1000000 →
    f5 K n (k : Int) lo cnt (m : Int) hr = outR (hr.take k ++ compA (hr.getD (lo + m - 1) d_df) (hr.drop (lo + m))) := by
  intro n
  induction n with
  | zero => intro m k hr h1 _ h2; omega
  | succ n ih =>
    intro m k hr h1 h2 h3 h4 h5 h6 h7
    show sh5 (k : Int) lo cnt (m : Int) hr (f4 K) (f6 K (f5 K n)) = _
    unfold sh5
    by_cases hm : m = cnt
    · rw [iltF (show ¬ (m : Int) < Int.ofNat cnt by simp; omega)]
      show f4 K (k : Int) hr = _
      rw [fin K hr k h5 (by omega) h7, List.drop_eq_nil_of_le (by omega)]
      exact congrArg outR (List.append_nil _).symm
    · have hi : lo + m < hr.length := by omega
      have hp : lo + (m - 1) < hr.length := by omega
      have hk : k < hr.length := by omega
      rw [iltT (show (m : Int) < Int.ofNat cnt by simp; omega), wrapP m h2 (by omega)]
      simp only [toNat_nat]
      rw [inbT (show m < cnt by omega), nltT hi, inbT (show m - 1 < cnt by omega), nltT hp, inbT hk, nltT hk]
      rw [show lo + m - 1 = lo + (m - 1) by omega, getD_lt hi, getD_lt hp, drop_lt hi]
      show condB (!(eqDf hr[lo + m] hr[lo + (m - 1)])) _ _ = _
      unfold compA
      cases he : eqDf hr[lo + m] hr[lo + (m - 1)]
      · show f5 K n (IntKind.wrap .i64 ((k : Int) + 1)) lo cnt (IntKind.wrap .i64 ((m : Int) + 1)) (List.set hr k hr[lo + m]) = _
        rw [wrapS k (by omega), wrapS m (by omega), ih (m + 1) (k + 1) (List.set hr k hr[lo + m]) (by omega) (by omega) (by omega) (by simp; omega) (by omega) (by omega) (by simpa using h7)]
        have e1 : List.take (k + 1) (List.set hr k hr[lo + m]) = List.take k hr ++ [hr[lo + m]] := by
          rw [List.take_add_one, List.take_set_of_le (Nat.le_refl k), List.getElem?_set_self hk]
          rfl
        have e2 : (List.set hr k hr[lo + m]).getD (lo + (m + 1) - 1) d_df = hr[lo + m] := by
          rw [show lo + (m + 1) - 1 = lo + m by omega, getD_lt (by simpa using hi), List.getElem_set_ne (by omega)]
        have e3 : List.drop (lo + (m + 1)) (List.set hr k hr[lo + m]) = List.drop (lo + m + 1) hr := by
          rw [List.drop_set_of_lt (by omega)]
          rfl
        rw [e1, e2, e3, List.append_assoc]
        rfl
      · show f5 K n (k : Int) lo cnt (IntKind.wrap .i64 ((m : Int) + 1)) hr = _
        rw [wrapS m (by omega), ih (m + 1) k hr (by omega) (by omega) (by omega) h4 h5 (by omega) h7]
        rw [show lo + (m + 1) - 1 = lo + m by omega, getD_lt hi, eqDf_iff.1 he]
        rfl
theorem outer : ∀ (n k : Nat) (hr : List Df), hr.length < n + k → 1 ≤ k → k ≤ hr.length → hr.length ≤ 4000 →
    f2 n (k : Int) hr = outR (hr.take k ++ compA (hr.getD (k - 1) d_df) (hr.drop k)) := by
  intro n
  induction n with
  | zero => intro k hr h1 _ h2; omega
  | succ n ih =>
    intro k hr h1 h2 h3 h4
    show sh2 (k : Int) hr f1 (f3 (f2 n)) (f5 (f2 n) 100000) = _
    unfold sh2
    by_cases hk : k = hr.length
    · rw [iltF (show ¬ (k : Int) < Int.ofNat hr.length by simp; omega), List.drop_eq_nil_of_le (by omega), List.take_of_length_le (by omega)]
      exact congrArg outR (List.append_nil _).symm
    · have hkl : k < hr.length := by omega
      have hp : k - 1 < hr.length := by omega
      rw [iltT (show (k : Int) < Int.ofNat hr.length by simp; omega), wrapP k h2 (by omega)]
      simp only [toNat_nat]
      rw [inbT hkl, nltT hkl, inbT hp, nltT hp, getD_lt hkl, getD_lt hp, drop_lt hkl]
      show condB (eqDf hr[k] hr[k - 1]) _ _ = _
      unfold compA
      cases he : eqDf hr[k] hr[k - 1]
      · show f2 n (IntKind.wrap .i64 ((k : Int) + 1)) hr = _
        rw [wrapS k (by omega), ih (k + 1) hr (by omega) (by omega) (by omega) h4, show k + 1 - 1 = k by omega, getD_lt hkl, List.take_add_one, List.getElem?_eq_getElem hkl, List.append_assoc]
        rfl
      · show chk (ile 0 (k : Int) && ile (k : Int) (Int.ofNat hr.length) && ile (Int.ofNat hr.length) (Int.ofNat hr.length)) (f5 (f2 n) 100000 (k : Int) k (hr.length - k) (1 : Int) hr) = _
        rw [ileT (show (0 : Int) ≤ (k : Int) by omega), ileT (show (k : Int) ≤ Int.ofNat hr.length by simp; omega), ileT (Int.le_refl (Int.ofNat hr.length))]
        show f5 (f2 n) 100000 (k : Int) k (hr.length - k) ((1 : Nat) : Int) hr = _
        rw [inner (f2 n) k (hr.length - k) (by omega) 100000 1 k hr (by omega) (by omega) (by omega) (by omega) (by omega) (by omega) (by omega)]
        rw [show k + 1 - 1 = k by omega, getD_lt hkl, eqDf_iff.1 he]
        rfl
theorem f0_eq (l : List Df) (h : nle (List.length l) 4000 = true) : f0 l = outR (compactL l) := by
  have hl : l.length ≤ 4000 := of_decide_eq_true h
  show sh0 l (f2 100000) = _
  unfold sh0
  match l, hl with
  | [], _ => rfl
  | [x], _ => rfl
  | x :: y :: l, hl =>
    rw [iltF (show ¬ Int.ofNat (x :: y :: l).length < 2 by simp; omega)]
    show f2 100000 ((1 : Nat) : Int) (x :: y :: l) = _
    rw [outer 100000 1 (x :: y :: l) (by simp only [List.length_cons] at hl ⊢; omega) (Nat.le_refl _) (by simp) hl]
    rfl
theorem ok : CtxOk Tryd.prog X := ctxOk tab (by
  intro p hp
  cases hp)
theorem okM : MOk Tryd.prog X := fun g sp h => by cases h
theorem spec (l : List Df) (h : (nle (List.length l) 4000) = true) : MCall Tryd.prog E 50 [(.ful 1000000000)] [(1000000000, (.rows .df l))] (.ful 2) [(2, (.rows .df (compactL l)))] :=
  runM_sound ok okM Tryd.func50 (by kernel_rfl) (by kernel_rfl) (by kernel_rfl) (by show 1 ≤ 61; decide) ((run l).trans (f0_eq l h))
noncomputable def sp : MSp U El := fun args hs k => match args, hs with
  | [.ful q0], [(q1, .rows .df l)] => chk (Nat.beq q0 1000000000 && (Nat.beq q1 1000000000 && true)) (chk (nle (List.length l) 4000) (k (.ful 2) [(2, (.rows .df (compactL l)))]))
  | _, _ => none
theorem spOk : MSpOk Tryd.prog E 50 sp := ⟨Tryd.call50, fun args hs k r h => by
  unfold sp at h
  split at h
  · obtain ⟨hq, hA⟩ := chk_some h
    clear h
    simp only [Bool.and_eq_true] at hq
    obtain ⟨e0, e1, _⟩ := hq
    cases Nat.eq_of_beq_eq_true e0
    cases Nat.eq_of_beq_eq_true e1
    obtain ⟨h1, hB⟩ := chk_some hA
    exact ⟨_, _, spec _ h1, hB⟩
  · cases h⟩
end compactF

noncomputable def compactSp : SpM U El := fun d args st k => match args with
  | [.ful id] => match hget st.h id with
    | some (.rows .df xs) => chk (nle (List.length xs) 4000) (k (.ful d) (mState st [id] [(d, 2)] [] [(2, .rows .df (compactL xs))]))
    | _ => none
  | _ => none
theorem compactOk {X : Ctx U El} (hE : X.E = E) (hX : CtxOk Tryd.prog X) : SpMOk Tryd.prog X 50 compactSp := by
  refine ⟨Tryd.call50, ?_⟩
  intro B S0 w0 S ρ st a w d args vs k r hi hr hv
  unfold compactSp at hv
  split at hv
  · rename_i id
    split at hv
    · rename_i xs hg
      obtain ⟨hck, hk⟩ := chk_some hv
      refine hi.mcall hX (ids := [id]) (outs := [(d, 2)]) (pins := []) (args' := [.ful 1000000000]) (hs := [(1000000000, .rows .df xs)]) (hc := [(2, .rows .df (compactL xs))]) (v := .ful 2) hr ?_ ?_ ?_ (by rw [hE]; exact compactF.spec xs hck) ?_ ?_
      · simp [AV.ren, upOf, hidBase]
      · simp [AV.within]
      · simp [handed, hg, Blk.within, Blk.ren, chk, hidBase]
      · simp [mOk, AV.within, hget, Blk.within]
      · simpa [AV.ren, dnOf] using hk
    · cases hv
  · cases hv

/-- lists that are short enough -/
noncomputable def lensOk (ls : List (List Df)) : Bool := nle (List.length ls) 10 && nle (List.length (List.flatten ls)) 4000
end Go.Proofs.YtnhmhcobpbilhaaDoor
