/- Text, and awake. -/
import Derived.Test.YtnhmhcobpbilhaaDoorVH
import Derived.Test.YtnhmhcobpbilhaaDoorIT
namespace Go.Proofs.YtnhmhcobpbilhaaDoor
set_option linter.unusedSectionVars false
set_option linter.unusedSimpArgs false
set_option linter.unusedVariables false
set_option maxRecDepth 100000

noncomputable def numsS : List Int → List UInt8
  | [] => []
  | n :: l => ([32] : List UInt8) ++ Lib.itoa n ++ numsS l
noncomputable def lineS (d : Df) : List UInt8 := d.c ++ numsS [d.a, d.l, d.s] ++ [10]
noncomputable def linesS : List Df → List UInt8
  | [] => []
  | d :: l => lineS d ++ linesS l
noncomputable def textS (l : List Df) : List UInt8 := bif validB 16777216 l then linesS l else []
noncomputable def textE (l : List Df) : Int := bif validB 16777216 l then 0 else 1
noncomputable def rngB (n : Int) : Bool := ile (-9223372036854775808) n && ile n 9223372036854775807
noncomputable def txtOk (l : List Df) : Bool := nle (List.length (linesS l)) 140737488355328 && l.all (fun d => rngB d.a && (rngB d.l && rngB d.s))
theorem valid_len {L : Int} {l : List Df} (h : validB L l = true) : l.length ≤ 1000 := by
  simp only [validB, Bool.and_eq_true, nle, decide_eq_true_eq] at h
  exact h.2.1

namespace textF
noncomputable def bd : Code := (Tryd.f33.body).getD .skip
noncomputable def X : Ctx U El := ⟨E, tds, zeros, eqs, specOf [(21, valid.sp), (53, itoa.sp)], 100000, 41, mspecOf [(52, wsSp .u8 (fun s => s)), (54, strSp .u8 (fun s => s))]⟩
noncomputable def nmR : Norm U := ⟨[], [2, 3], [], [], [], []⟩
noncomputable def RR : Kont U El := fun st => normK nmR st (retFin [2, 3] [])
noncomputable def nm1 : Norm U := ⟨[], [4], [4, 4000], [], [], []⟩
noncomputable def nm2 : Norm U := ⟨[], [4, 12, 13, 14], [4, 4000], [], [], []⟩
noncomputable def nm3 : Norm U := ⟨[], [4, 12, 13, 14], [4, 4000], [], [], []⟩
noncomputable def nm4 : Norm U := ⟨[], [4, 12, 13, 14], [4, 4000], [], [], []⟩
noncomputable def nm5 : Norm U := ⟨[(27, .int)], [4, 12, 13, 14, 27, 28, 29], [27, 4, 4000], [], [], []⟩
noncomputable def fr0 (l : List Df) : St U El := ⟨[(0, (.lst .df l))], []⟩
noncomputable def fr1 (buf4 : List UInt8) : St U El := ⟨[(4, (.ptr 4 0))], [(4, (.bld 76 4000)), (4000, (.rows .u8 buf4))]⟩
noncomputable def fr2 (x12 : List Df) (x13 : Int) (x14 : Int) (buf4 : List UInt8) : St U El := ⟨[(4, (.ptr 4 0)), (12, (.lst .df x12)), (13, (.int .i64 x13)), (14, (.int .i64 x14))], [(4, (.bld 76 4000)), (4000, (.rows .u8 buf4))]⟩
noncomputable def fr3 (x12 : List Df) (x13 : Int) (x14 : Int) (buf4 : List UInt8) : St U El := ⟨[(4, (.ptr 4 0)), (12, (.lst .df x12)), (13, (.int .i64 x13)), (14, (.int .i64 x14))], [(4, (.bld 76 4000)), (4000, (.rows .u8 buf4))]⟩
noncomputable def fr4 (x12 : List Df) (x13 : Int) (x14 : Int) (buf4 : List UInt8) : St U El := ⟨[(4, (.ptr 4 0)), (12, (.lst .df x12)), (13, (.int .i64 x13)), (14, (.int .i64 x14))], [(4, (.bld 76 4000)), (4000, (.rows .u8 buf4))]⟩
noncomputable def fr5 (x12 : List Df) (x13 : Int) (x14 : Int) (x27 : List Int) (x28 : Int) (x29 : Int) (buf4 : List UInt8) : St U El := ⟨[(4, (.ptr 4 0)), (12, (.lst .df x12)), (13, (.int .i64 x13)), (14, (.int .i64 x14)), (27, (.ful 27)), (28, (.int .i64 x28)), (29, (.int .i64 x29))], [(27, (.rows .int x27)), (4, (.bld 76 4000)), (4000, (.rows .u8 buf4))]⟩
noncomputable def sh0 (l : List Df) (k2 : (List Df) → Int → Int → (List UInt8) → R) : R :=
  condB (!(validB (16777216 : Int) l)) (some ((.tup [(.str ([] : List UInt8)), (.int .i64 (1 : Int))]), [])) (k2 l (Int.ofNat (List.length l)) (0 : Int) ([] : List UInt8))
noncomputable def sh1 (buf4 : List UInt8) : R :=
  chk (true && nle (List.length buf4) 9223372036854775807) (some ((.tup [(.str buf4), (.int .i64 (0 : Int))]), []))
noncomputable def sh2 (x12 : List Df) (x13 : Int) (x14 : Int) (buf4 : List UInt8) (k1 : (List UInt8) → R) (k5 : (List Df) → Int → Int → (List Int) → Int → Int → (List UInt8) → R) : R :=
  condB (ilt x14 x13) (chk (inb x14 (List.length x12)) (chk (true && nle (List.length buf4 + List.length ((List.getD x12 (Int.toNat x14) d_df).c)) 140737488355328) (k5 x12 x13 x14 ([(List.getD x12 (Int.toNat x14) d_df).a, (List.getD x12 (Int.toNat x14) d_df).l, (List.getD x12 (Int.toNat x14) d_df).s] : List Int) (Int.ofNat (List.length ([(List.getD x12 (Int.toNat x14) d_df).a, (List.getD x12 (Int.toNat x14) d_df).l, (List.getD x12 (Int.toNat x14) d_df).s] : List Int))) (0 : Int) (buf4 ++ (List.getD x12 (Int.toNat x14) d_df).c)))) (k1 buf4)
noncomputable def sh3 (x12 : List Df) (x13 : Int) (x14 : Int) (buf4 : List UInt8) (k2 : (List Df) → Int → Int → (List UInt8) → R) : R :=
  k2 x12 x13 (IntKind.wrap .i64 (x14 + (1 : Int))) buf4
noncomputable def sh4 (x12 : List Df) (x13 : Int) (x14 : Int) (buf4 : List UInt8) (k3 : (List Df) → Int → Int → (List UInt8) → R) : R :=
  chk (true && nle (List.length buf4 + List.length ([10] : List UInt8)) 140737488355328) (k3 x12 x13 x14 (buf4 ++ ([10] : List UInt8)))
noncomputable def sh5 (x12 : List Df) (x13 : Int) (x14 : Int) (x27 : List Int) (x28 : Int) (x29 : Int) (buf4 : List UInt8) (k4 : (List Df) → Int → Int → (List UInt8) → R) (k5 : (List Df) → Int → Int → (List Int) → Int → Int → (List UInt8) → R) : R :=
  condB (ilt x29 x28) (chk (inb x29 (List.length x27)) (chk (nlt (Int.toNat x29) (List.length x27)) (chk ((ile (-9223372036854775808) (List.getD x27 (Int.toNat x29) d_int) && ile (List.getD x27 (Int.toNat x29) d_int) 9223372036854775807)) (chk (nle (List.length ([32] : List UInt8) + List.length (Lib.itoa (List.getD x27 (Int.toNat x29) d_int))) 9223372036854775807) (chk (true && nle (List.length buf4 + List.length (([32] : List UInt8) ++ (Lib.itoa (List.getD x27 (Int.toNat x29) d_int)))) 140737488355328) (k5 x12 x13 x14 x27 x28 (IntKind.wrap .i64 (x29 + (1 : Int))) (buf4 ++ (([32] : List UInt8) ++ (Lib.itoa (List.getD x27 (Int.toNat x29) d_int)))))))))) (k4 x12 x13 x14 buf4)
noncomputable def it2 (Kb1 : Kont U El) (n : Nat) : Kont U El := iter nm2 (fun st' K' => exec X (cdp [1, 1, 1, 0, 1, 0, 0] bd) (.seq none .d (.seq none .d (.seq (some nm3) (.block (.seq none .d (.seq none .d (.seq (some nm4) (.seq none .d (.block (.loop nm5 .d))) .d)))) .d))) st' K' (Eblk 0 (cutK nm1 Kb1) (fun _ _ => none)) RR) n
noncomputable def it5 (Kb1 : Kont U El) (Kb3 : Kont U El) (Kb4 : Kont U El) (n : Nat) : Kont U El := iter nm5 (fun st' K' => exec X (cdp [1, 1, 1, 0, 1, 0, 0, 1, 1, 0, 0, 1, 1, 0, 1, 0, 0] bd) .d st' K' (Eblk 2 (cutK nm4 Kb4) (Eblk 1 (cutK nm3 Kb3) (Eblk 0 (cutK nm1 Kb1) (fun _ _ => none)))) RR) n
noncomputable def ct1 : Kont U El := fun st => exec X (cdp [1, 1, 1, 1] bd) .d st RR (fun _ _ => none) RR
noncomputable def ct3 (Kb1 : Kont U El) (Kb2 : Kont U El) : Kont U El := fun st => exec X (cdp [1, 1, 1, 0, 1, 0, 0, 1, 1, 1] bd) .d st (cutK nm2 Kb2) (Eblk 0 (cutK nm1 Kb1) (fun _ _ => none)) RR
noncomputable def ct4 (Kb1 : Kont U El) (Kb3 : Kont U El) : Kont U El := fun st => exec X (cdp [1, 1, 1, 0, 1, 0, 0, 1, 1, 0, 0, 1, 1, 1] bd) .d st (cutK nm3 Kb3) (Eblk 1 (cutK nm3 Kb3) (Eblk 0 (cutK nm1 Kb1) (fun _ _ => none))) RR
theorem P0 (l : List Df) : exec X (cdp [] bd) (.seq none .d (.seq none .d (.seq none .d (.seq (some nm1) (.seq none .d (.block (.loop nm2 (.seq none .d (.seq none .d (.seq (some nm3) (.block (.seq none .d (.seq none .d (.seq (some nm4) (.seq none .d (.block (.loop nm5 .d))) .d)))) .d)))))) .d)))) (fr0 l) RR (fun _ _ => none) RR = sh0 l (fun y0 y1 y2 y3 => (hid (it2 (hid ct1) 100000)) (fr2 y0 y1 y2 y3)) := by kernel_rfl
theorem P1 (buf4 : List UInt8) : exec X (cdp [1, 1, 1, 1] bd) .d (fr1 buf4) RR (fun _ _ => none) RR = sh1 buf4 := by kernel_rfl
theorem P2 (x12 : List Df) (x13 : Int) (x14 : Int) (buf4 : List UInt8) (Kb1 : Kont U El) (Kb2 : Kont U El) : exec X (cdp [1, 1, 1, 0, 1, 0, 0] bd) (.seq none .d (.seq none .d (.seq (some nm3) (.block (.seq none .d (.seq none .d (.seq (some nm4) (.seq none .d (.block (.loop nm5 .d))) .d)))) .d))) (fr2 x12 x13 x14 buf4) (cutK nm2 Kb2) (Eblk 0 (cutK nm1 Kb1) (fun _ _ => none)) RR = sh2 x12 x13 x14 buf4 (fun y0 => Kb1 (fr1 y0)) (fun y0 y1 y2 y3 y4 y5 y6 => (hid (it5 Kb1 (hid (ct3 Kb1 Kb2)) (hid (ct4 Kb1 (hid (ct3 Kb1 Kb2)))) 100000)) (fr5 y0 y1 y2 y3 y4 y5 y6)) := by kernel_rfl
theorem P3 (x12 : List Df) (x13 : Int) (x14 : Int) (buf4 : List UInt8) (Kb1 : Kont U El) (Kb2 : Kont U El) : exec X (cdp [1, 1, 1, 0, 1, 0, 0, 1, 1, 1] bd) .d (fr3 x12 x13 x14 buf4) (cutK nm2 Kb2) (Eblk 0 (cutK nm1 Kb1) (fun _ _ => none)) RR = sh3 x12 x13 x14 buf4 (fun y0 y1 y2 y3 => Kb2 (fr2 y0 y1 y2 y3)) := by kernel_rfl
theorem P4 (x12 : List Df) (x13 : Int) (x14 : Int) (buf4 : List UInt8) (Kb1 : Kont U El) (Kb3 : Kont U El) : exec X (cdp [1, 1, 1, 0, 1, 0, 0, 1, 1, 0, 0, 1, 1, 1] bd) .d (fr4 x12 x13 x14 buf4) (cutK nm3 Kb3) (Eblk 1 (cutK nm3 Kb3) (Eblk 0 (cutK nm1 Kb1) (fun _ _ => none))) RR = sh4 x12 x13 x14 buf4 (fun y0 y1 y2 y3 => Kb3 (fr3 y0 y1 y2 y3)) := by kernel_rfl
theorem P5 (x12 : List Df) (x13 : Int) (x14 : Int) (x27 : List Int) (x28 : Int) (x29 : Int) (buf4 : List UInt8) (Kb1 : Kont U El) (Kb3 : Kont U El) (Kb4 : Kont U El) (Kb5 : Kont U El) : exec X (cdp [1, 1, 1, 0, 1, 0, 0, 1, 1, 0, 0, 1, 1, 0, 1, 0, 0] bd) .d (fr5 x12 x13 x14 x27 x28 x29 buf4) (cutK nm5 Kb5) (Eblk 2 (cutK nm4 Kb4) (Eblk 1 (cutK nm3 Kb3) (Eblk 0 (cutK nm1 Kb1) (fun _ _ => none)))) RR = sh5 x12 x13 x14 x27 x28 x29 buf4 (fun y0 y1 y2 y3 => Kb4 (fr4 y0 y1 y2 y3)) (fun y0 y1 y2 y3 y4 y5 y6 => Kb5 (fr5 y0 y1 y2 y3 y4 y5 y6)) := by kernel_rfl
noncomputable def f1 (buf4 : List UInt8) : R := sh1 buf4
noncomputable def f3 (k2 : (List Df) → Int → Int → (List UInt8) → R) (x12 : List Df) (x13 : Int) (x14 : Int) (buf4 : List UInt8) : R := sh3 x12 x13 x14 buf4 k2
noncomputable def f4 (k2 : (List Df) → Int → Int → (List UInt8) → R) (x12 : List Df) (x13 : Int) (x14 : Int) (buf4 : List UInt8) : R := sh4 x12 x13 x14 buf4 (f3 k2)
noncomputable def f5 (k2 : (List Df) → Int → Int → (List UInt8) → R) : Nat → (List Df) → Int → Int → (List Int) → Int → Int → (List UInt8) → R
  | 0 => fun _ _ _ _ _ _ _ => none
  | n + 1 => fun x12 x13 x14 x27 x28 x29 buf4 => sh5 x12 x13 x14 x27 x28 x29 buf4 (f4 k2) (f5 k2 n)
noncomputable def f2 : Nat → (List Df) → Int → Int → (List UInt8) → R
  | 0 => fun _ _ _ _ => none
  | n + 1 => fun x12 x13 x14 buf4 => sh2 x12 x13 x14 buf4 f1 (f5 (f2 n) 100000)
noncomputable def f0 (l : List Df) : R := sh0 l (f2 100000)
theorem T1 (buf4 : List UInt8) : (hid ct1) (fr1 buf4) = f1 buf4 := by
  refine (congrFun (hid_eq _) _).trans <| (P1 buf4).trans ?_
  show _ = sh1 buf4
  rfl
theorem T3 (KL2 : Kont U El) (k2 : (List Df) → Int → Int → (List UInt8) → R) (h2 : ∀ x12 x13 x14 buf4, KL2 (fr2 x12 x13 x14 buf4) = k2 x12 x13 x14 buf4) (x12 : List Df) (x13 : Int) (x14 : Int) (buf4 : List UInt8) : (hid (ct3 (hid ct1) KL2)) (fr3 x12 x13 x14 buf4) = f3 k2 x12 x13 x14 buf4 := by
  refine (congrFun (hid_eq _) _).trans <| (P3 x12 x13 x14 buf4 (hid ct1) KL2).trans ?_
  show _ = sh3 x12 x13 x14 buf4 k2
  simp only [h2]
theorem T4 (KL2 : Kont U El) (k2 : (List Df) → Int → Int → (List UInt8) → R) (h2 : ∀ x12 x13 x14 buf4, KL2 (fr2 x12 x13 x14 buf4) = k2 x12 x13 x14 buf4) (x12 : List Df) (x13 : Int) (x14 : Int) (buf4 : List UInt8) : (hid (ct4 (hid ct1) (hid (ct3 (hid ct1) KL2)))) (fr4 x12 x13 x14 buf4) = f4 k2 x12 x13 x14 buf4 := by
  refine (congrFun (hid_eq _) _).trans <| (P4 x12 x13 x14 buf4 (hid ct1) (hid (ct3 (hid ct1) KL2))).trans ?_
  show _ = sh4 x12 x13 x14 buf4 (f3 k2)
  simp only [T3 KL2 k2 h2]
theorem T5 (KL2 : Kont U El) (k2 : (List Df) → Int → Int → (List UInt8) → R) (h2 : ∀ x12 x13 x14 buf4, KL2 (fr2 x12 x13 x14 buf4) = k2 x12 x13 x14 buf4) : ∀ (n : Nat), ∀ x12 x13 x14 x27 x28 x29 buf4, it5 (hid ct1) (hid (ct3 (hid ct1) KL2)) (hid (ct4 (hid ct1) (hid (ct3 (hid ct1) KL2)))) n (fr5 x12 x13 x14 x27 x28 x29 buf4) = f5 k2 n x12 x13 x14 x27 x28 x29 buf4 := by
  intro n
  induction n with
  | zero => intros; rfl
  | succ n ih =>
    intro x12 x13 x14 x27 x28 x29 buf4
    refine (P5 x12 x13 x14 x27 x28 x29 buf4 (hid ct1) (hid (ct3 (hid ct1) KL2)) (hid (ct4 (hid ct1) (hid (ct3 (hid ct1) KL2)))) (it5 (hid ct1) (hid (ct3 (hid ct1) KL2)) (hid (ct4 (hid ct1) (hid (ct3 (hid ct1) KL2)))) n)).trans ?_
    show _ = sh5 x12 x13 x14 x27 x28 x29 buf4 (f4 k2) (f5 k2 n)
    simp only [T4 KL2 k2 h2, ih]
theorem H5 (KL2 : Kont U El) (k2 : (List Df) → Int → Int → (List UInt8) → R) (h2 : ∀ x12 x13 x14 buf4, KL2 (fr2 x12 x13 x14 buf4) = k2 x12 x13 x14 buf4) (x12 : List Df) (x13 : Int) (x14 : Int) (x27 : List Int) (x28 : Int) (x29 : Int) (buf4 : List UInt8) : hid (it5 (hid ct1) (hid (ct3 (hid ct1) KL2)) (hid (ct4 (hid ct1) (hid (ct3 (hid ct1) KL2)))) 100000) (fr5 x12 x13 x14 x27 x28 x29 buf4) = f5 k2 100000 x12 x13 x14 x27 x28 x29 buf4 := (congrFun (hid_eq _) _).trans (T5 KL2 k2 h2 100000 x12 x13 x14 x27 x28 x29 buf4)
theorem T2 : ∀ (n : Nat), ∀ x12 x13 x14 buf4, it2 (hid ct1) n (fr2 x12 x13 x14 buf4) = f2 n x12 x13 x14 buf4 := by
  intro n
  induction n with
  | zero => intros; rfl
  | succ n ih =>
    intro x12 x13 x14 buf4
    refine (P2 x12 x13 x14 buf4 (hid ct1) (it2 (hid ct1) n)).trans ?_
    show _ = sh2 x12 x13 x14 buf4 f1 (f5 (f2 n) 100000)
    simp only [T1, H5 (it2 (hid ct1) n) (f2 n) ih]
theorem H2 (x12 : List Df) (x13 : Int) (x14 : Int) (buf4 : List UInt8) : hid (it2 (hid ct1) 100000) (fr2 x12 x13 x14 buf4) = f2 100000 x12 x13 x14 buf4 := (congrFun (hid_eq _) _).trans (T2 100000 x12 x13 x14 buf4)
theorem T0 (l : List Df) : exec X bd (.seq none .d (.seq none .d (.seq none .d (.seq (some nm1) (.seq none .d (.block (.loop nm2 (.seq none .d (.seq none .d (.seq (some nm3) (.block (.seq none .d (.seq none .d (.seq (some nm4) (.seq none .d (.block (.loop nm5 .d))) .d)))) .d)))))) .d)))) (fr0 l) RR (fun _ _ => none) RR = f0 l := by
  refine (P0 l).trans ?_
  show _ = sh0 l (f2 100000)
  simp only [H2]
theorem run (l : List Df) : runFn X bd (.seq none .d (.seq none .d (.seq none .d (.seq (some nm1) (.seq none .d (.block (.loop nm2 (.seq none .d (.seq none .d (.seq (some nm3) (.block (.seq none .d (.seq none .d (.seq (some nm4) (.seq none .d (.block (.loop nm5 .d))) .d)))) .d)))))) .d)))) nmR [2, 3] [] [(.lst .df l)] = f0 l := T0 l
theorem loop5 (k2 : List Df → Int → Int → List UInt8 → R) (xs : List Df) (L j : Int) (ns : List Int) (hl : ns.length ≤ 1000) (hr : ∀ x ∈ ns, rngB x = true) : ∀ (n i : Nat) (buf : List UInt8), ns.length < n + i → i ≤ ns.length → buf.length + (numsS (ns.drop i)).length ≤ 140737488355328 →
    f5 k2 n xs L j ns (Int.ofNat ns.length) (i : Int) buf = f4 k2 xs L j (buf ++ numsS (ns.drop i)) := by
  intro n
  induction n with
  | zero => intro i buf h1 h2; omega
  | succ n ih =>
    intro i buf h1 h2 h3
    show sh5 xs L j ns (Int.ofNat ns.length) i buf (f4 k2) (f5 k2 n) = _
    unfold sh5
    by_cases hi : i < ns.length
    · rw [drop_lt hi] at h3 ⊢
      simp only [numsS, List.length_append] at h3
      have hr' := hr ns[i] (List.getElem_mem hi)
      rw [iltT (by simp; omega), inbT hi, toNat_nat, nltT hi, getD_lt hi, wrapS i (by omega)]
      unfold rngB at hr'
      rw [hr', nleT (by simp only [List.length_cons, List.length_nil] at h3 ⊢; omega), nleT (by simp only [List.length_append]; omega)]
      have := ih (i + 1) (buf ++ ([32] ++ Lib.itoa ns[i])) (by omega) (by omega) (by simp only [List.length_append]; omega)
      refine Eq.trans this ?_
      simp only [numsS, List.append_assoc]
    · have : i = ns.length := by omega
      subst this
      rw [iltF (by simp), List.drop_length]
      simp only [numsS, List.append_nil]
      rfl
theorem loop2 (xs : List Df) (hl : xs.length ≤ 1000000) (hr : ∀ d ∈ xs, (rngB d.a && (rngB d.l && rngB d.s)) = true) : ∀ (n i : Nat) (buf : List UInt8), xs.length < n + i → i ≤ xs.length → buf.length + (linesS (xs.drop i)).length ≤ 140737488355328 →
    f2 n xs (Int.ofNat xs.length) (i : Int) buf = some (.tup [.str (buf ++ linesS (xs.drop i)), .int .i64 0], []) := by
  intro n
  induction n with
  | zero => intro i buf h1 h2; omega
  | succ n ih =>
    intro i buf h1 h2 h3
    show sh2 xs (Int.ofNat xs.length) i buf f1 (f5 (f2 n) 100000) = _
    unfold sh2
    by_cases hi : i < xs.length
    · rw [drop_lt hi] at h3 ⊢
      simp only [linesS, lineS, List.length_append] at h3
      have hr' := hr xs[i] (List.getElem_mem hi)
      simp only [Bool.and_eq_true] at hr'
      rw [iltT (by simp; omega), inbT hi, toNat_nat, getD_lt hi, nleT (by omega)]
      simp only [condB, chk, cond_true, Bool.and_self]
      refine (loop5 (f2 n) xs _ i [xs[i].a, xs[i].l, xs[i].s] (by simp) (by simp [hr']) 100000 0 _ (by simp) (by simp) (by simp only [List.length_append, List.drop_zero]; omega)).trans ?_
      unfold f4 sh4 f3 sh3
      simp only [List.drop_zero]
      rw [nleT (by simp only [List.length_append, List.length_cons, List.length_nil] at h3 ⊢; omega), wrapS i (by omega)]
      have := ih (i + 1) (buf ++ xs[i].c ++ numsS [xs[i].a, xs[i].l, xs[i].s] ++ [10]) (by omega) (by omega) (by simp only [List.length_append]; omega)
      refine Eq.trans this ?_
      simp only [linesS, lineS, List.append_assoc]
    · have : i = xs.length := by omega
      subst this
      rw [iltF (by simp), List.drop_length] at *
      simp only [linesS, List.append_nil, List.length_nil] at *
      unfold f1 sh1
      simp only [condB, cond_false]
      rw [nleT (by omega)]
      rfl
theorem f0_eq (l : List Df) (h : txtOk l = true) : f0 l = some (.tup [.str (textS l), .int .i64 (textE l)], []) := by
  unfold f0 sh0 textS textE
  cases hv : validB 16777216 l
  · rfl
  · unfold txtOk at h
    simp only [Bool.and_eq_true, nle, decide_eq_true_eq, List.all_eq_true] at h
    exact loop2 l (by have := valid_len hv; omega) (fun d hd => by have := h.2 d hd; simp only [Bool.and_eq_true]; exact this) 100000 0 [] (by have := valid_len hv; omega) (by omega) (by simpa using h.1)
theorem ok : CtxOk Tryd.prog X := ctxOk tab (by
  intro p hp
  simp only [List.mem_cons, List.not_mem_nil, or_false] at hp
  rcases hp with rfl | rfl
  · exact valid.spOk
  · exact itoa.spOk)
theorem okM : MOk Tryd.prog X := mspecOf_ok _ (by
  intro p hp
  simp only [List.mem_cons, List.not_mem_nil, or_false] at hp
  rcases hp with rfl | rfl
  · exact wsOk ok byteU rfl
  · exact strOk ok byteU rfl)
theorem spec (l : List Df) (h : (txtOk l) = true) : CallSpec Tryd.prog E 33 [(.lst .df l)] (.tup [(.str (textS l)), (.int .i64 (textE l))]) [] :=
  runFn_sound ok okM Tryd.call33 Tryd.func33 (by kernel_rfl) (by kernel_rfl) (by kernel_rfl) (by show 1 ≤ 41; decide) (by decide) (by rfl) ((run l).trans (f0_eq l h))
noncomputable def sp : Sp U El := fun args k => match args with
  | [.lst .df l] => chk (txtOk l) (k (.tup [(.str (textS l)), (.int .i64 (textE l))]) [])
  | _ => none
theorem spOk : SpOk Tryd.prog E 33 sp where
  det := fun vs => by
    unfold sp
    split
    · rename_i l
      cases hb : (txtOk l)
      · exact ⟨none, fun _ => rfl⟩
      · exact ⟨some (_, _), fun _ => rfl⟩
    · exact ⟨none, fun _ => rfl⟩
  ok := fun vs k r h => by
    unfold sp at h
    split at h
    · obtain ⟨h1, h2⟩ := chk_some h
      exact ⟨_, _, spec _ h1, h2⟩
    · cases h
end textF
namespace awake
noncomputable def bd : Code := (Tryd.f10.body).getD .skip
noncomputable def X : Ctx U El := ⟨E, tds, zeros, eqs, specOf [(12, score.sp), (13, gradeF.sp), (17, worst.sp), (32, exampleF.sp), (33, textF.sp)], 100000, 65, fun _ => none⟩
noncomputable def nmR : Norm U := ⟨[], [0], [], [], [], []⟩
noncomputable def RR : Kont U El := fun st => normK nmR st (retFin [0] [])
noncomputable def fr0 : St U El := ⟨[], []⟩
noncomputable def sh0 : R :=
  chk (txtOk (exampleL)) (condB ((scoreE (10000 : Int) (exampleL)) == (0 : Int)) (condB ((scoreZ (10000 : Int) (exampleL)) == (184 : Int)) (condB ((scoreE (10000 : Int) (exampleL)) == (0 : Int)) (condB ((gradeF (10000 : Int) (exampleL)) == (5 : Int)) (condB ((worE (10000 : Int) (4000 : Int) (exampleL)) == (0 : Int)) (condB ((wor1 (10000 : Int) (4000 : Int) (exampleL)) == (168 : Int)) (condB ((wor2 (10000 : Int) (4000 : Int) (exampleL)) == (3000 : Int)) (condB ((textE (exampleL)) == (0 : Int)) (some ((.bool ((textS (exampleL)) == ([67, 82, 32, 49, 48, 48, 48, 32, 50, 53, 48, 48, 32, 51, 10, 66, 82, 32, 55, 48, 48, 48, 32, 48, 32, 52, 10] : List UInt8))), [])) (some ((.bool false), []))) (some ((.bool false), []))) (some ((.bool false), []))) (some ((.bool false), []))) (some ((.bool false), []))) (some ((.bool false), []))) (some ((.bool false), []))) (some ((.bool false), [])))
theorem P0 : exec X (cdp [] bd) .d (fr0) RR (fun _ _ => none) RR = sh0 := by kernel_rfl
noncomputable def f0 : R := sh0
theorem T0 : exec X bd .d (fr0) RR (fun _ _ => none) RR = f0 := by
  refine (P0).trans ?_
  show _ = sh0
  rfl
theorem run : runFn X bd .d nmR [0] [] [] = f0 := T0
theorem f0_eq : f0 = some (.bool true, []) := by kernel_rfl
theorem ok : CtxOk Tryd.prog X := ctxOk tab (by
  intro p hp
  simp only [List.mem_cons, List.not_mem_nil, or_false] at hp
  rcases hp with rfl | rfl | rfl | rfl | rfl
  · exact score.spOk
  · exact gradeF.spOk
  · exact worst.spOk
  · exact exampleF.spOk
  · exact textF.spOk)
theorem okM : MOk Tryd.prog X := fun g sp h => by cases h
theorem spec : CallSpec Tryd.prog E 10 [] (.bool (true)) [] :=
  runFn_sound ok okM Tryd.call10 Tryd.func10 (by kernel_rfl) (by kernel_rfl) (by kernel_rfl) (by show 0 ≤ 65; decide) (by decide) (by rfl) ((run).trans (f0_eq))
noncomputable def sp : Sp U El := fun args k => match args with
  | [] => k (.bool (true)) []
  | _ => none
theorem spOk : SpOk Tryd.prog E 10 sp where
  det := fun vs => by
    unfold sp
    split
    · exact ⟨some (_, _), fun _ => rfl⟩
    · exact ⟨none, fun _ => rfl⟩
  ok := fun vs k r h => by
    unfold sp at h
    split at h
    · exact ⟨_, _, spec, h⟩
    · cases h
end awake
end Go.Proofs.YtnhmhcobpbilhaaDoor
