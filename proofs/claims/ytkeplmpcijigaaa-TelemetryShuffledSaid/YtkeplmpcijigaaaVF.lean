/- The example of the chapter. -/
import Derived.Test.YtkeplmpcijigaaaVE
namespace Go.Proofs.Ytkeplmpcijigaaa
set_option linter.unusedSectionVars false
set_option linter.unusedSimpArgs false
set_option linter.unusedVariables false
set_option maxRecDepth 100000

theorem sortM_nil : sortM [] = [] := List.mergeSort_nil
theorem sortM_one (m : Msg) : sortM [m] = [m] := List.mergeSort_singleton m
noncomputable def m0 : Msg := ⟨[97], 0, 5, 7, 0⟩
noncomputable def m1 : Msg := ⟨[97], 1, 3, 12, 0⟩
noncomputable def m2 : Msg := ⟨[98], 0, 1, 14, 0⟩
namespace awake
noncomputable def bd : Code := (Try.f9.body).getD .skip
noncomputable def X : Ctx U El := ⟨E, tds, zeros, eqs, specOf [], 100000, 73, dspecOf [(13, fput.sp), (14, fmark.sp), (19, fready.sp)], mspecOf [(11, (mcSp newF.sp)), (17, (mcSp (orN flateN.sp flate.sp))), (19, (mcSp (orN freadyN.sp fready.sp)))]⟩
noncomputable def nmR : Norm U := ⟨[], [0], [], [], [], [], []⟩
noncomputable def RR : Kont U El := fun st => normK nmR st (retFin [0] [])
noncomputable def nm1 : Norm U := ⟨[], [1], [8000, 500800003, 500800004, 500800005], [], [(8000, 3, .key, 500800003), (8000, 4, .msg, 500800004), (8000, 5, .msg, 500800005)], [], []⟩
noncomputable def nm2 : Norm U := ⟨[], [1], [8000, 500800003, 500800004, 500800005], [], [(8000, 3, .key, 500800003), (8000, 4, .msg, 500800004), (8000, 5, .msg, 500800005)], [], []⟩
noncomputable def nm3 : Norm U := ⟨[(20, .msg)], [1, 20, 21, 22], [20, 8000, 500800003, 500800004, 500800005], [], [(8000, 3, .key, 500800003), (8000, 4, .msg, 500800004), (8000, 5, .msg, 500800005)], [], []⟩
noncomputable def nm4 : Norm U := ⟨[(20, .msg)], [1, 20, 21, 22], [20, 8000, 500800003, 500800004, 500800005], [], [(8000, 3, .key, 500800003), (8000, 4, .msg, 500800004), (8000, 5, .msg, 500800005)], [], []⟩
noncomputable def fr0 : St U El := ⟨[], []⟩
noncomputable def fr1 (b8000_0 : Int) (b8000_1 : Int) (b8000_2 : Int) (b8000_3 : List (Key × Bool)) (b8000_4 : List Msg) (b8000_5 : List Msg) : St U El := ⟨[(1, (.ptr 8000 0))], [(8000, (.box 0 [(.int .i64 b8000_0), (.int .i64 b8000_1), (.int .i64 b8000_2), (.mp 500800003), (.ful 500800004), (.ful 500800005)])), (500800003, (.map .key .bool b8000_3)), (500800004, (.rows .msg b8000_4)), (500800005, (.rows .msg b8000_5))]⟩
noncomputable def fr2 (b8000_0 : Int) (b8000_1 : Int) (b8000_2 : Int) (b8000_3 : List (Key × Bool)) (b8000_4 : List Msg) (b8000_5 : List Msg) : St U El := ⟨[(1, (.ptr 8000 0))], [(8000, (.box 0 [(.int .i64 b8000_0), (.int .i64 b8000_1), (.int .i64 b8000_2), (.mp 500800003), (.ful 500800004), (.ful 500800005)])), (500800003, (.map .key .bool b8000_3)), (500800004, (.rows .msg b8000_4)), (500800005, (.rows .msg b8000_5))]⟩
noncomputable def fr3 (x20 : List Msg) (x21 : Int) (x22 : Int) (b8000_0 : Int) (b8000_1 : Int) (b8000_2 : Int) (b8000_3 : List (Key × Bool)) (b8000_4 : List Msg) (b8000_5 : List Msg) : St U El := ⟨[(1, (.ptr 8000 0)), (20, (.ful 20)), (21, (.int .i64 x21)), (22, (.int .i64 x22))], [(20, (.rows .msg x20)), (8000, (.box 0 [(.int .i64 b8000_0), (.int .i64 b8000_1), (.int .i64 b8000_2), (.mp 500800003), (.ful 500800004), (.ful 500800005)])), (500800003, (.map .key .bool b8000_3)), (500800004, (.rows .msg b8000_4)), (500800005, (.rows .msg b8000_5))]⟩
noncomputable def fr4 (x20 : List Msg) (x21 : Int) (x22 : Int) (b8000_0 : Int) (b8000_1 : Int) (b8000_2 : Int) (b8000_3 : List (Key × Bool)) (b8000_4 : List Msg) (b8000_5 : List Msg) : St U El := ⟨[(1, (.ptr 8000 0)), (20, (.ful 20)), (21, (.int .i64 x21)), (22, (.int .i64 x22))], [(20, (.rows .msg x20)), (8000, (.box 0 [(.int .i64 b8000_0), (.int .i64 b8000_1), (.int .i64 b8000_2), (.mp 500800003), (.ful 500800004), (.ful 500800005)])), (500800003, (.map .key .bool b8000_3)), (500800004, (.rows .msg b8000_4)), (500800005, (.rows .msg b8000_5))]⟩
noncomputable def sh0 (k1 : Int → Int → Int → (List (Key × Bool)) → (List Msg) → (List Msg) → R) : R :=
  condB (ile 0 (10 : Int) && ile (10 : Int) 68719476736) (k1 ((10 : Int)) (-137438953472 : Int) (-68719476736 : Int) ([]) ([]) ([])) (some ((.bool false), []))
noncomputable def sh1 (b8000_0 : Int) (b8000_1 : Int) (b8000_2 : Int) (b8000_3 : List (Key × Bool)) (b8000_4 : List Msg) (b8000_5 : List Msg) (k3 : (List Msg) → Int → Int → Int → Int → Int → (List (Key × Bool)) → (List Msg) → (List Msg) → R) : R :=
  k3 ([(⟨([97] : List UInt8), (0 : Int), (5 : Int), (7 : Int), (0 : Int)⟩ : Msg), (⟨([97] : List UInt8), (1 : Int), (3 : Int), (12 : Int), (0 : Int)⟩ : Msg), (⟨([98] : List UInt8), (0 : Int), (1 : Int), (14 : Int), (0 : Int)⟩ : Msg)] : List Msg) (Int.ofNat (List.length ([(⟨([97] : List UInt8), (0 : Int), (5 : Int), (7 : Int), (0 : Int)⟩ : Msg), (⟨([97] : List UInt8), (1 : Int), (3 : Int), (12 : Int), (0 : Int)⟩ : Msg), (⟨([98] : List UInt8), (0 : Int), (1 : Int), (14 : Int), (0 : Int)⟩ : Msg)] : List Msg))) (0 : Int) b8000_0 b8000_1 b8000_2 b8000_3 b8000_4 b8000_5
noncomputable def sh2 (b8000_0 : Int) (b8000_1 : Int) (b8000_2 : Int) (b8000_3 : List (Key × Bool)) (b8000_4 : List Msg) (b8000_5 : List Msg) : R :=
  chk ((keysB b8000_4 && nle (List.length b8000_4) 90000)) (chk (nle (List.length b8000_5) 90000) (condB ((Int.ofNat (List.length (sortM (List.filter (fun m => ilt (Msg.at_ m) b8000_1) b8000_4)))) == (1 : Int)) (chk (inb (0 : Int) (List.length (sortM (List.filter (fun m => ilt (Msg.at_ m) b8000_1) b8000_4)))) (chk (nlt 0 (List.length (sortM (List.filter (fun m => ilt (Msg.at_ m) b8000_1) b8000_4)))) (condB ((List.getD (sortM (List.filter (fun m => ilt (Msg.at_ m) b8000_1) b8000_4)) 0 d_msg).at_ == (3 : Int)) (condB ((Int.ofNat (List.length (b8000_5))) == (1 : Int)) (chk (inb (0 : Int) (List.length (b8000_5))) (chk (nlt 0 (List.length (b8000_5))) (some ((.bool (((List.getD (b8000_5) 0 d_msg).nd) == ([98] : List UInt8))), [])))) (some ((.bool false), []))) (some ((.bool false), []))))) (some ((.bool false), []))))
noncomputable def sh3 (x20 : List Msg) (x21 : Int) (x22 : Int) (b8000_0 : Int) (b8000_1 : Int) (b8000_2 : Int) (b8000_3 : List (Key × Bool)) (b8000_4 : List Msg) (b8000_5 : List Msg) (k2 : Int → Int → Int → (List (Key × Bool)) → (List Msg) → (List Msg) → R) (k4 : (List Msg) → Int → Int → Int → Int → Int → (List (Key × Bool)) → (List Msg) → (List Msg) → R) : R :=
  condB (ilt x22 x21) (chk (inb x22 (List.length x20)) (chk (nlt (Int.toNat x22) (List.length x20)) (chk ((keysB b8000_4 && nle (List.length b8000_4) 90000)) (condB ((Int.ofNat (List.length (sortM (List.filter (fun m => ilt (Msg.at_ m) b8000_1) b8000_4)))) != (0 : Int)) (some ((.bool false), [])) (chk (fsOk ⟨b8000_0, b8000_1, b8000_2, b8000_3, (List.filter (fun m => !(ilt (Msg.at_ m) b8000_1)) b8000_4), b8000_5⟩) (condB ((putE ⟨b8000_0, b8000_1, b8000_2, b8000_3, (List.filter (fun m => !(ilt (Msg.at_ m) b8000_1)) b8000_4), b8000_5⟩ (List.getD x20 (Int.toNat x22) d_msg)) != (0 : Int)) (some ((.bool false), [])) (chk (inb x22 (List.length ([(-3 : Int), (2 : Int), (4 : Int)] : List Int))) (chk (nlt (Int.toNat x22) (List.length ([(-3 : Int), (2 : Int), (4 : Int)] : List Int))) (condB (((FS.mk_ (putS ⟨b8000_0, b8000_1, b8000_2, b8000_3, (List.filter (fun m => !(ilt (Msg.at_ m) b8000_1)) b8000_4), b8000_5⟩ (List.getD x20 (Int.toNat x22) d_msg)))) != (List.getD ([(-3 : Int), (2 : Int), (4 : Int)] : List Int) (Int.toNat x22) d_int)) (some ((.bool false), [])) (k4 x20 x21 x22 b8000_0 (FS.mk_ (putS ⟨b8000_0, b8000_1, b8000_2, b8000_3, (List.filter (fun m => !(ilt (Msg.at_ m) b8000_1)) b8000_4), b8000_5⟩ (List.getD x20 (Int.toNat x22) d_msg))) (FS.ls (putS ⟨b8000_0, b8000_1, b8000_2, b8000_3, (List.filter (fun m => !(ilt (Msg.at_ m) b8000_1)) b8000_4), b8000_5⟩ (List.getD x20 (Int.toNat x22) d_msg))) (FS.got (putS ⟨b8000_0, b8000_1, b8000_2, b8000_3, (List.filter (fun m => !(ilt (Msg.at_ m) b8000_1)) b8000_4), b8000_5⟩ (List.getD x20 (Int.toNat x22) d_msg))) (FS.wt (putS ⟨b8000_0, b8000_1, b8000_2, b8000_3, (List.filter (fun m => !(ilt (Msg.at_ m) b8000_1)) b8000_4), b8000_5⟩ (List.getD x20 (Int.toNat x22) d_msg))) (FS.lt (putS ⟨b8000_0, b8000_1, b8000_2, b8000_3, (List.filter (fun m => !(ilt (Msg.at_ m) b8000_1)) b8000_4), b8000_5⟩ (List.getD x20 (Int.toNat x22) d_msg))))))))))))) (k2 b8000_0 b8000_1 b8000_2 b8000_3 b8000_4 b8000_5)
noncomputable def sh4 (x20 : List Msg) (x21 : Int) (x22 : Int) (b8000_0 : Int) (b8000_1 : Int) (b8000_2 : Int) (b8000_3 : List (Key × Bool)) (b8000_4 : List Msg) (b8000_5 : List Msg) (k3 : (List Msg) → Int → Int → Int → Int → Int → (List (Key × Bool)) → (List Msg) → (List Msg) → R) : R :=
  k3 x20 x21 (IntKind.wrap .i64 (x22 + (1 : Int))) b8000_0 b8000_1 b8000_2 b8000_3 b8000_4 b8000_5
noncomputable def it3 (Kb2 : Kont U El) (n : Nat) : Kont U El := iter nm3 (fun st' K' => exec X (cdp [1, 1, 1, 0, 1, 0, 0] bd) (.seq none .d (.seq none .d (.seq (some nm4) (.block (.seq none .d (.seq none (.region [(1, 8000), (1, 500800003), (1, 500800004), (1, 500800005), (7, 8000), (7, 28001), (7, 28002), (7, 28003), (12, 8000), (12, 34000), (12, 34001), (12, 34002)]) .d))) .d))) st' K' (Eblk 0 (cutK nm2 Kb2) (fun _ _ => none)) RR) n
noncomputable def ct1 : Kont U El := fun st => exec X (cdp [1, 1, 1] bd) (.seq (some nm2) (.seq none .d (.block (.loop nm3 (.seq none .d (.seq none .d (.seq (some nm4) (.block (.seq none .d (.seq none (.region [(1, 8000), (1, 500800003), (1, 500800004), (1, 500800005), (7, 8000), (7, 28001), (7, 28002), (7, 28003), (12, 8000), (12, 34000), (12, 34001), (12, 34002)]) .d))) .d)))))) .d) st RR (fun _ _ => none) RR
noncomputable def ct2 : Kont U El := fun st => exec X (cdp [1, 1, 1, 1] bd) .d st RR (fun _ _ => none) RR
noncomputable def ct4 (Kb2 : Kont U El) (Kb3 : Kont U El) : Kont U El := fun st => exec X (cdp [1, 1, 1, 0, 1, 0, 0, 1, 1, 1] bd) .d st (cutK nm3 Kb3) (Eblk 0 (cutK nm2 Kb2) (fun _ _ => none)) RR
theorem P0 : exec X (cdp [] bd) (.seq none .d (.seq none .d (.seq (some nm1) .d (.seq (some nm2) (.seq none .d (.block (.loop nm3 (.seq none .d (.seq none .d (.seq (some nm4) (.block (.seq none .d (.seq none (.region [(1, 8000), (1, 500800003), (1, 500800004), (1, 500800005), (7, 8000), (7, 28001), (7, 28002), (7, 28003), (12, 8000), (12, 34000), (12, 34001), (12, 34002)]) .d))) .d)))))) .d)))) (fr0) RR (fun _ _ => none) RR = sh0 (fun y0 y1 y2 y3 y4 y5 => (hid ct1) (fr1 y0 y1 y2 y3 y4 y5)) := by kernel_rfl
theorem P1 (b8000_0 : Int) (b8000_1 : Int) (b8000_2 : Int) (b8000_3 : List (Key × Bool)) (b8000_4 : List Msg) (b8000_5 : List Msg) : exec X (cdp [1, 1, 1] bd) (.seq (some nm2) (.seq none .d (.block (.loop nm3 (.seq none .d (.seq none .d (.seq (some nm4) (.block (.seq none .d (.seq none (.region [(1, 8000), (1, 500800003), (1, 500800004), (1, 500800005), (7, 8000), (7, 28001), (7, 28002), (7, 28003), (12, 8000), (12, 34000), (12, 34001), (12, 34002)]) .d))) .d)))))) .d) (fr1 b8000_0 b8000_1 b8000_2 b8000_3 b8000_4 b8000_5) RR (fun _ _ => none) RR = sh1 b8000_0 b8000_1 b8000_2 b8000_3 b8000_4 b8000_5 (fun y0 y1 y2 y3 y4 y5 y6 y7 y8 => (hid (it3 (hid ct2) 100000)) (fr3 y0 y1 y2 y3 y4 y5 y6 y7 y8)) := by kernel_rfl
theorem P2 (b8000_0 : Int) (b8000_1 : Int) (b8000_2 : Int) (b8000_3 : List (Key × Bool)) (b8000_4 : List Msg) (b8000_5 : List Msg) : exec X (cdp [1, 1, 1, 1] bd) .d (fr2 b8000_0 b8000_1 b8000_2 b8000_3 b8000_4 b8000_5) RR (fun _ _ => none) RR = sh2 b8000_0 b8000_1 b8000_2 b8000_3 b8000_4 b8000_5 := by kernel_rfl
theorem P3 (x20 : List Msg) (x21 : Int) (x22 : Int) (b8000_0 : Int) (b8000_1 : Int) (b8000_2 : Int) (b8000_3 : List (Key × Bool)) (b8000_4 : List Msg) (b8000_5 : List Msg) (Kb2 : Kont U El) (Kb3 : Kont U El) : exec X (cdp [1, 1, 1, 0, 1, 0, 0] bd) (.seq none .d (.seq none .d (.seq (some nm4) (.block (.seq none .d (.seq none (.region [(1, 8000), (1, 500800003), (1, 500800004), (1, 500800005), (7, 8000), (7, 28001), (7, 28002), (7, 28003), (12, 8000), (12, 34000), (12, 34001), (12, 34002)]) .d))) .d))) (fr3 x20 x21 x22 b8000_0 b8000_1 b8000_2 b8000_3 b8000_4 b8000_5) (cutK nm3 Kb3) (Eblk 0 (cutK nm2 Kb2) (fun _ _ => none)) RR = sh3 x20 x21 x22 b8000_0 b8000_1 b8000_2 b8000_3 b8000_4 b8000_5 (fun y0 y1 y2 y3 y4 y5 => Kb2 (fr2 y0 y1 y2 y3 y4 y5)) (fun y0 y1 y2 y3 y4 y5 y6 y7 y8 => (hid (ct4 Kb2 Kb3)) (fr4 y0 y1 y2 y3 y4 y5 y6 y7 y8)) := by kernel_rfl
theorem P4 (x20 : List Msg) (x21 : Int) (x22 : Int) (b8000_0 : Int) (b8000_1 : Int) (b8000_2 : Int) (b8000_3 : List (Key × Bool)) (b8000_4 : List Msg) (b8000_5 : List Msg) (Kb2 : Kont U El) (Kb3 : Kont U El) : exec X (cdp [1, 1, 1, 0, 1, 0, 0, 1, 1, 1] bd) .d (fr4 x20 x21 x22 b8000_0 b8000_1 b8000_2 b8000_3 b8000_4 b8000_5) (cutK nm3 Kb3) (Eblk 0 (cutK nm2 Kb2) (fun _ _ => none)) RR = sh4 x20 x21 x22 b8000_0 b8000_1 b8000_2 b8000_3 b8000_4 b8000_5 (fun y0 y1 y2 y3 y4 y5 y6 y7 y8 => Kb3 (fr3 y0 y1 y2 y3 y4 y5 y6 y7 y8)) := by kernel_rfl
noncomputable def f2 (b8000_0 : Int) (b8000_1 : Int) (b8000_2 : Int) (b8000_3 : List (Key × Bool)) (b8000_4 : List Msg) (b8000_5 : List Msg) : R := sh2 b8000_0 b8000_1 b8000_2 b8000_3 b8000_4 b8000_5
noncomputable def f4 (k3 : (List Msg) → Int → Int → Int → Int → Int → (List (Key × Bool)) → (List Msg) → (List Msg) → R) (x20 : List Msg) (x21 : Int) (x22 : Int) (b8000_0 : Int) (b8000_1 : Int) (b8000_2 : Int) (b8000_3 : List (Key × Bool)) (b8000_4 : List Msg) (b8000_5 : List Msg) : R := sh4 x20 x21 x22 b8000_0 b8000_1 b8000_2 b8000_3 b8000_4 b8000_5 k3
noncomputable def f3 : Nat → (List Msg) → Int → Int → Int → Int → Int → (List (Key × Bool)) → (List Msg) → (List Msg) → R
  | 0 => fun _ _ _ _ _ _ _ _ _ => none
  | n + 1 => fun x20 x21 x22 b8000_0 b8000_1 b8000_2 b8000_3 b8000_4 b8000_5 => sh3 x20 x21 x22 b8000_0 b8000_1 b8000_2 b8000_3 b8000_4 b8000_5 f2 (f4 (f3 n))
noncomputable def f1 (b8000_0 : Int) (b8000_1 : Int) (b8000_2 : Int) (b8000_3 : List (Key × Bool)) (b8000_4 : List Msg) (b8000_5 : List Msg) : R := sh1 b8000_0 b8000_1 b8000_2 b8000_3 b8000_4 b8000_5 (f3 100000)
noncomputable def f0 : R := sh0 f1
theorem T2 (b8000_0 : Int) (b8000_1 : Int) (b8000_2 : Int) (b8000_3 : List (Key × Bool)) (b8000_4 : List Msg) (b8000_5 : List Msg) : (hid ct2) (fr2 b8000_0 b8000_1 b8000_2 b8000_3 b8000_4 b8000_5) = f2 b8000_0 b8000_1 b8000_2 b8000_3 b8000_4 b8000_5 := by
  refine (congrFun (hid_eq _) _).trans <| (P2 b8000_0 b8000_1 b8000_2 b8000_3 b8000_4 b8000_5).trans ?_
  show _ = sh2 b8000_0 b8000_1 b8000_2 b8000_3 b8000_4 b8000_5
  rfl
theorem T4 (KL3 : Kont U El) (k3 : (List Msg) → Int → Int → Int → Int → Int → (List (Key × Bool)) → (List Msg) → (List Msg) → R) (h3 : ∀ x20 x21 x22 b8000_0 b8000_1 b8000_2 b8000_3 b8000_4 b8000_5, KL3 (fr3 x20 x21 x22 b8000_0 b8000_1 b8000_2 b8000_3 b8000_4 b8000_5) = k3 x20 x21 x22 b8000_0 b8000_1 b8000_2 b8000_3 b8000_4 b8000_5) (x20 : List Msg) (x21 : Int) (x22 : Int) (b8000_0 : Int) (b8000_1 : Int) (b8000_2 : Int) (b8000_3 : List (Key × Bool)) (b8000_4 : List Msg) (b8000_5 : List Msg) : (hid (ct4 (hid ct2) KL3)) (fr4 x20 x21 x22 b8000_0 b8000_1 b8000_2 b8000_3 b8000_4 b8000_5) = f4 k3 x20 x21 x22 b8000_0 b8000_1 b8000_2 b8000_3 b8000_4 b8000_5 := by
  refine (congrFun (hid_eq _) _).trans <| (P4 x20 x21 x22 b8000_0 b8000_1 b8000_2 b8000_3 b8000_4 b8000_5 (hid ct2) KL3).trans ?_
  show _ = sh4 x20 x21 x22 b8000_0 b8000_1 b8000_2 b8000_3 b8000_4 b8000_5 k3
  simp only [h3]
theorem T3 : ∀ (n : Nat), ∀ x20 x21 x22 b8000_0 b8000_1 b8000_2 b8000_3 b8000_4 b8000_5, it3 (hid ct2) n (fr3 x20 x21 x22 b8000_0 b8000_1 b8000_2 b8000_3 b8000_4 b8000_5) = f3 n x20 x21 x22 b8000_0 b8000_1 b8000_2 b8000_3 b8000_4 b8000_5 := by
  intro n
  induction n with
  | zero => intros; rfl
  | succ n ih =>
    intro x20 x21 x22 b8000_0 b8000_1 b8000_2 b8000_3 b8000_4 b8000_5
    refine (P3 x20 x21 x22 b8000_0 b8000_1 b8000_2 b8000_3 b8000_4 b8000_5 (hid ct2) (it3 (hid ct2) n)).trans ?_
    show _ = sh3 x20 x21 x22 b8000_0 b8000_1 b8000_2 b8000_3 b8000_4 b8000_5 f2 (f4 (f3 n))
    simp only [T2, T4 (it3 (hid ct2) n) (f3 n) ih]
theorem H3 (x20 : List Msg) (x21 : Int) (x22 : Int) (b8000_0 : Int) (b8000_1 : Int) (b8000_2 : Int) (b8000_3 : List (Key × Bool)) (b8000_4 : List Msg) (b8000_5 : List Msg) : hid (it3 (hid ct2) 100000) (fr3 x20 x21 x22 b8000_0 b8000_1 b8000_2 b8000_3 b8000_4 b8000_5) = f3 100000 x20 x21 x22 b8000_0 b8000_1 b8000_2 b8000_3 b8000_4 b8000_5 := (congrFun (hid_eq _) _).trans (T3 100000 x20 x21 x22 b8000_0 b8000_1 b8000_2 b8000_3 b8000_4 b8000_5)
theorem T1 (b8000_0 : Int) (b8000_1 : Int) (b8000_2 : Int) (b8000_3 : List (Key × Bool)) (b8000_4 : List Msg) (b8000_5 : List Msg) : (hid ct1) (fr1 b8000_0 b8000_1 b8000_2 b8000_3 b8000_4 b8000_5) = f1 b8000_0 b8000_1 b8000_2 b8000_3 b8000_4 b8000_5 := by
  refine (congrFun (hid_eq _) _).trans <| (P1 b8000_0 b8000_1 b8000_2 b8000_3 b8000_4 b8000_5).trans ?_
  show _ = sh1 b8000_0 b8000_1 b8000_2 b8000_3 b8000_4 b8000_5 (f3 100000)
  simp only [H3]
theorem T0 : exec X bd (.seq none .d (.seq none .d (.seq (some nm1) .d (.seq (some nm2) (.seq none .d (.block (.loop nm3 (.seq none .d (.seq none .d (.seq (some nm4) (.block (.seq none .d (.seq none (.region [(1, 8000), (1, 500800003), (1, 500800004), (1, 500800005), (7, 8000), (7, 28001), (7, 28002), (7, 28003), (12, 8000), (12, 34000), (12, 34001), (12, 34002)]) .d))) .d)))))) .d)))) (fr0) RR (fun _ _ => none) RR = f0 := by
  refine (P0).trans ?_
  show _ = sh0 f1
  simp only [T1]
theorem run : runFn X bd (.seq none .d (.seq none .d (.seq (some nm1) .d (.seq (some nm2) (.seq none .d (.block (.loop nm3 (.seq none .d (.seq none .d (.seq (some nm4) (.block (.seq none .d (.seq none (.region [(1, 8000), (1, 500800003), (1, 500800004), (1, 500800005), (7, 8000), (7, 28001), (7, 28002), (7, 28003), (12, 8000), (12, 34000), (12, 34001), (12, 34002)]) .d))) .d)))))) .d)))) nmR [0] [] [] = f0 := T0
theorem s0 (n : Nat) : f3 (n + 1) [m0, m1, m2] 3 0 10 (-137438953472) (-68719476736) [] [] [] = f3 n [m0, m1, m2] 3 1 10 (-3) 7 [(keyM m0, true)] [m0] [] := by
  have e : sortM (List.filter (fun m => ilt (Msg.at_ m) (-137438953472)) []) = [] := sortM_nil
  show sh3 [m0, m1, m2] 3 0 10 (-137438953472) (-68719476736) [] [] [] f2 (f4 (f3 n)) = _
  unfold sh3
  rw [e]
  kernel_rfl
theorem s1 (n : Nat) : f3 (n + 1) [m0, m1, m2] 3 1 10 (-3) 7 [(keyM m0, true)] [m0] [] = f3 n [m0, m1, m2] 3 2 10 2 12 [(keyM m0, true), (keyM m1, true)] [m0, m1] [] := by
  have e : sortM (List.filter (fun m => ilt (Msg.at_ m) (-3)) [m0]) = [] := sortM_nil
  show sh3 [m0, m1, m2] 3 1 10 (-3) 7 [(keyM m0, true)] [m0] [] f2 (f4 (f3 n)) = _
  unfold sh3
  rw [e]
  kernel_rfl
theorem s2 (n : Nat) : f3 (n + 1) [m0, m1, m2] 3 2 10 2 12 [(keyM m0, true), (keyM m1, true)] [m0, m1] [] = f3 n [m0, m1, m2] 3 3 10 4 14 [(keyM m0, true), (keyM m1, true), (keyM m2, true)] [m0, m1] [m2] := by
  have e : sortM (List.filter (fun m => ilt (Msg.at_ m) 2) [m0, m1]) = [] := sortM_nil
  show sh3 [m0, m1, m2] 3 2 10 2 12 [(keyM m0, true), (keyM m1, true)] [m0, m1] [] f2 (f4 (f3 n)) = _
  unfold sh3
  rw [e]
  kernel_rfl
theorem s3 (n : Nat) : f3 (n + 1) [m0, m1, m2] 3 3 10 4 14 [(keyM m0, true), (keyM m1, true), (keyM m2, true)] [m0, m1] [m2] = outB true := by
  have e : sortM (List.filter (fun m => ilt (Msg.at_ m) 4) [m0, m1]) = [m1] := sortM_one m1
  show sh2 10 4 14 [(keyM m0, true), (keyM m1, true), (keyM m2, true)] [m0, m1] [m2] = _
  unfold sh2
  rw [e]
  kernel_rfl
theorem f0_eq : f0 = outB true := by
  show f3 100000 [m0, m1, m2] 3 0 10 (-137438953472) (-68719476736) [] [] [] = _
  exact (s0 99999).trans ((s1 99998).trans ((s2 99997).trans (s3 99996)))
theorem ok : CtxOk Try.prog X := ctxOk tab (by
  intro p hp
  cases hp) (by
  intro p hp
  simp only [List.mem_cons, List.not_mem_nil, or_false] at hp
  rcases hp with rfl | rfl | rfl
  · exact ⟨fput.spOk, fput.spDet⟩
  · exact ⟨fmark.spOk, fmark.spDet⟩
  · exact ⟨fready.spOk, fready.spDet⟩)
theorem okM : MOk Try.prog X := mspecOf_ok _ (by
  intro p hp
  simp only [List.mem_cons, List.not_mem_nil, or_false] at hp
  rcases hp with rfl | rfl | rfl
  · exact mcSp_ok ok newF.spOk
  · exact mcSp_ok ok (orN_ok flateN.spOk flate.spOk)
  · exact mcSp_ok ok (orN_ok freadyN.spOk fready.spOk))
theorem spec : CallSpec Try.prog E 9 [] (.bool (true)) [] :=
  runFn_sound ok okM Try.call9 Try.func9 (by kernel_rfl) (by kernel_rfl) (by kernel_rfl) (by show 0 ≤ 73; decide) (by decide) (by rfl) ((run).trans (f0_eq))
noncomputable def sp : Sp U El := fun args k => match args with
  | [] => k (.bool (true)) []
  | _ => none
theorem spOk : SpOk Try.prog E 9 sp where
  det := fun vs => by
    unfold sp
    split
    · exact ⟨some (_, _), fun _ => rfl⟩
    · exact ⟨none, fun _ => rfl⟩
  ok := fun vs k r h => by
    unfold sp at h
    split at h
    · exact ⟨_, _, spec, h⟩
    · cases h
end awake
end Go.Proofs.Ytkeplmpcijigaaa
