/- The law TelemetryNone. -/
import Derived.Test.YtkeplmpcijigaaaVF
namespace Go.Proofs.Ytkeplmpcijigaaa
set_option linter.unusedSectionVars false
set_option linter.unusedSimpArgs false
set_option linter.unusedVariables false
set_option maxRecDepth 100000

theorem len_put (s : FS) (m : Msg) : (putS s m).wt.length ≤ s.wt.length + 1 ∧ (putS s m).lt.length ≤ s.lt.length + 1 := by
  unfold putS
  simp only
  cases putE s m == 0 <;> cases ilt m.at_ s.mk_ <;> simp
namespace lawNone
noncomputable def bd : Code := (Try.f5.body).getD .skip
noncomputable def X : Ctx U El := ⟨E, tds, zeros, eqs, specOf [(9, awake.sp), (10, many.sp), (16, equalM.sp), (22, cloneM.sp)], 100000, 79, dspecOf [], mspecOf [(11, (mcSp newF.sp)), (13, (mcSp (orN fputN.sp fput.sp))), (14, (mcSp (orN fmarkN.sp fmark.sp))), (17, (mcSp (orN flateN.sp flate.sp))), (19, (mcSp (orN freadyN.sp fready.sp)))]⟩
noncomputable def nmR : Norm U := ⟨[], [2], [], [], [], [], []⟩
noncomputable def RR : Kont U El := fun st => normK nmR st (retFin [2] [])
noncomputable def nm1 : Norm U := ⟨[], [0], [], [], [], [], []⟩
noncomputable def nm2 : Norm U := ⟨[], [0], [], [], [], [], []⟩
noncomputable def nm3 : Norm U := ⟨[], [0, 4], [42000, 504200003, 504200004, 504200005], [], [(42000, 3, .key, 504200003), (42000, 4, .msg, 504200004), (42000, 5, .msg, 504200005)], [], []⟩
noncomputable def nm4 : Norm U := ⟨[], [4], [42000, 504200003, 504200004, 504200005], [], [(42000, 3, .key, 504200003), (42000, 4, .msg, 504200004), (42000, 5, .msg, 504200005)], [], []⟩
noncomputable def nm5 : Norm U := ⟨[], [4, 51, 52, 53], [42000, 504200003, 504200004, 504200005], [], [(42000, 3, .key, 504200003), (42000, 4, .msg, 504200004), (42000, 5, .msg, 504200005)], [], []⟩
noncomputable def nm6 : Norm U := ⟨[(9, .msg)], [4, 9], [9, 42000, 504200003, 504200004, 504200005], [], [(42000, 3, .key, 504200003), (42000, 4, .msg, 504200004), (42000, 5, .msg, 504200005)], [], []⟩
noncomputable def nm7 : Norm U := ⟨[(8, .msg), (9, .msg)], [4, 8, 9, 66, 67], [8, 9, 42000, 504200003, 504200004, 504200005], [], [(42000, 3, .key, 504200003), (42000, 4, .msg, 504200004), (42000, 5, .msg, 504200005)], [], []⟩
noncomputable def fr0 (l : List Msg) : St U El := ⟨[(0, (.lst .msg l))], []⟩
noncomputable def fr1 (l0 : List Msg) : St U El := ⟨[(0, (.lst .msg l0))], []⟩
noncomputable def fr2 (l0 : List Msg) : St U El := ⟨[(0, (.lst .msg l0))], []⟩
noncomputable def fr3 (l0 : List Msg) (b42000_0 : Int) (b42000_1 : Int) (b42000_2 : Int) (b42000_3 : List (Key × Bool)) (b42000_4 : List Msg) (b42000_5 : List Msg) : St U El := ⟨[(0, (.lst .msg l0)), (4, (.ptr 42000 0))], [(42000, (.box 0 [(.int .i64 b42000_0), (.int .i64 b42000_1), (.int .i64 b42000_2), (.mp 504200003), (.ful 504200004), (.ful 504200005)])), (504200003, (.map .key .bool b42000_3)), (504200004, (.rows .msg b42000_4)), (504200005, (.rows .msg b42000_5))]⟩
noncomputable def fr4 (b42000_0 : Int) (b42000_1 : Int) (b42000_2 : Int) (b42000_3 : List (Key × Bool)) (b42000_4 : List Msg) (b42000_5 : List Msg) : St U El := ⟨[(4, (.ptr 42000 0))], [(42000, (.box 0 [(.int .i64 b42000_0), (.int .i64 b42000_1), (.int .i64 b42000_2), (.mp 504200003), (.ful 504200004), (.ful 504200005)])), (504200003, (.map .key .bool b42000_3)), (504200004, (.rows .msg b42000_4)), (504200005, (.rows .msg b42000_5))]⟩
noncomputable def fr5 (x51 : List Msg) (x52 : Int) (x53 : Int) (b42000_0 : Int) (b42000_1 : Int) (b42000_2 : Int) (b42000_3 : List (Key × Bool)) (b42000_4 : List Msg) (b42000_5 : List Msg) : St U El := ⟨[(4, (.ptr 42000 0)), (51, (.lst .msg x51)), (52, (.int .i64 x52)), (53, (.int .i64 x53))], [(42000, (.box 0 [(.int .i64 b42000_0), (.int .i64 b42000_1), (.int .i64 b42000_2), (.mp 504200003), (.ful 504200004), (.ful 504200005)])), (504200003, (.map .key .bool b42000_3)), (504200004, (.rows .msg b42000_4)), (504200005, (.rows .msg b42000_5))]⟩
noncomputable def fr6 (copied9 : List Msg) (b42000_0 : Int) (b42000_1 : Int) (b42000_2 : Int) (b42000_3 : List (Key × Bool)) (b42000_4 : List Msg) (b42000_5 : List Msg) : St U El := ⟨[(4, (.ptr 42000 0)), (9, (.ful 9))], [(9, (.rows .msg copied9)), (42000, (.box 0 [(.int .i64 b42000_0), (.int .i64 b42000_1), (.int .i64 b42000_2), (.mp 504200003), (.ful 504200004), (.ful 504200005)])), (504200003, (.map .key .bool b42000_3)), (504200004, (.rows .msg b42000_4)), (504200005, (.rows .msg b42000_5))]⟩
noncomputable def fr7 (late8 : List Msg) (copied9 : List Msg) (x66 : Int) (x67 : Int) (b42000_0 : Int) (b42000_1 : Int) (b42000_2 : Int) (b42000_3 : List (Key × Bool)) (b42000_4 : List Msg) (b42000_5 : List Msg) : St U El := ⟨[(4, (.ptr 42000 0)), (8, (.ful 8)), (9, (.ful 9)), (66, (.int .i64 x66)), (67, (.int .i64 x67))], [(8, (.rows .msg late8)), (9, (.rows .msg copied9)), (42000, (.box 0 [(.int .i64 b42000_0), (.int .i64 b42000_1), (.int .i64 b42000_2), (.mp 504200003), (.ful 504200004), (.ful 504200005)])), (504200003, (.map .key .bool b42000_3)), (504200004, (.rows .msg b42000_4)), (504200005, (.rows .msg b42000_5))]⟩
noncomputable def sh0 (l : List Msg) (k1 : (List Msg) → R) : R :=
  condB (!(true)) (some ((.bool false), [])) (condB ((Int.ofNat 0) != (0 : Int)) (some ((.bool false), [])) (condB ((Int.ofNat 0) != (0 : Int)) (some ((.bool false), [])) (k1 l)))
noncomputable def sh1 (l0 : List Msg) (k2 : (List Msg) → R) : R :=
  condB (ilt (30 : Int) (Int.ofNat (List.length l0))) (some ((.bool true), [])) (chk (ile (30 : Int) 80000) (condB (manyB l0 (30 : Int)) (some ((.bool true), [])) (k2 l0)))
noncomputable def sh2 (l0 : List Msg) (k3 : (List Msg) → Int → Int → Int → (List (Key × Bool)) → (List Msg) → (List Msg) → R) : R :=
  condB (ile 0 (0 : Int) && ile (0 : Int) 68719476736) (k3 l0 ((0 : Int)) (-137438953472 : Int) (-68719476736 : Int) ([]) ([]) ([])) (some ((.bool false), []))
noncomputable def sh3 (l0 : List Msg) (b42000_0 : Int) (b42000_1 : Int) (b42000_2 : Int) (b42000_3 : List (Key × Bool)) (b42000_4 : List Msg) (b42000_5 : List Msg) (k5 : (List Msg) → Int → Int → Int → Int → Int → (List (Key × Bool)) → (List Msg) → (List Msg) → R) : R :=
  k5 l0 (Int.ofNat (List.length l0)) (0 : Int) b42000_0 b42000_1 b42000_2 b42000_3 b42000_4 b42000_5
noncomputable def sh4 (b42000_0 : Int) (b42000_1 : Int) (b42000_2 : Int) (b42000_3 : List (Key × Bool)) (b42000_4 : List Msg) (b42000_5 : List Msg) (k7 : (List Msg) → (List Msg) → Int → Int → Int → Int → Int → (List (Key × Bool)) → (List Msg) → (List Msg) → R) : R :=
  chk (nle (List.length b42000_5) 90000) (chk (nle (List.length (b42000_5)) 100000) (k7 (b42000_5) ((b42000_5)) (Int.ofNat (List.length (b42000_5))) (0 : Int) b42000_0 b42000_1 b42000_2 b42000_3 b42000_4 b42000_5))
noncomputable def sh5 (x51 : List Msg) (x52 : Int) (x53 : Int) (b42000_0 : Int) (b42000_1 : Int) (b42000_2 : Int) (b42000_3 : List (Key × Bool)) (b42000_4 : List Msg) (b42000_5 : List Msg) (k4 : Int → Int → Int → (List (Key × Bool)) → (List Msg) → (List Msg) → R) (k5 : (List Msg) → Int → Int → Int → Int → Int → (List (Key × Bool)) → (List Msg) → (List Msg) → R) : R :=
  condB (ilt x53 x52) (chk (inb x53 (List.length x51)) (chk (fsOk ⟨b42000_0, b42000_1, b42000_2, b42000_3, b42000_4, b42000_5⟩) (k5 x51 x52 (IntKind.wrap .i64 (x53 + (1 : Int))) b42000_0 (FS.mk_ (putS ⟨b42000_0, b42000_1, b42000_2, b42000_3, b42000_4, b42000_5⟩ (List.getD x51 (Int.toNat x53) d_msg))) (FS.ls (putS ⟨b42000_0, b42000_1, b42000_2, b42000_3, b42000_4, b42000_5⟩ (List.getD x51 (Int.toNat x53) d_msg))) (FS.got (putS ⟨b42000_0, b42000_1, b42000_2, b42000_3, b42000_4, b42000_5⟩ (List.getD x51 (Int.toNat x53) d_msg))) (FS.wt (putS ⟨b42000_0, b42000_1, b42000_2, b42000_3, b42000_4, b42000_5⟩ (List.getD x51 (Int.toNat x53) d_msg))) (FS.lt (putS ⟨b42000_0, b42000_1, b42000_2, b42000_3, b42000_4, b42000_5⟩ (List.getD x51 (Int.toNat x53) d_msg)))))) (k4 b42000_0 b42000_1 b42000_2 b42000_3 b42000_4 b42000_5)
noncomputable def sh6 (copied9 : List Msg) (b42000_0 : Int) (b42000_1 : Int) (b42000_2 : Int) (b42000_3 : List (Key × Bool)) (b42000_4 : List Msg) (b42000_5 : List Msg) : R :=
  chk (nle (List.length b42000_5) 90000) (chk (nle (List.length (b42000_5)) 90000) (some ((.bool (eqL (b42000_5) copied9)), [])))
noncomputable def sh7 (late8 : List Msg) (copied9 : List Msg) (x66 : Int) (x67 : Int) (b42000_0 : Int) (b42000_1 : Int) (b42000_2 : Int) (b42000_3 : List (Key × Bool)) (b42000_4 : List Msg) (b42000_5 : List Msg) (k6 : (List Msg) → Int → Int → Int → (List (Key × Bool)) → (List Msg) → (List Msg) → R) (k7 : (List Msg) → (List Msg) → Int → Int → Int → Int → Int → (List (Key × Bool)) → (List Msg) → (List Msg) → R) : R :=
  condB (ilt x67 x66) (chk (inb x67 (List.length late8)) (chk (nlt (Int.toNat x67) (List.length late8) && true) (k7 (List.set late8 (Int.toNat x67) (⟨([120] : List UInt8), (List.getD late8 (Int.toNat x67) d_msg).no, (List.getD late8 (Int.toNat x67) d_msg).at_, (List.getD late8 (Int.toNat x67) d_msg).ar, (List.getD late8 (Int.toNat x67) d_msg).lv⟩ : Msg)) copied9 x66 (IntKind.wrap .i64 (x67 + (1 : Int))) b42000_0 b42000_1 b42000_2 b42000_3 b42000_4 b42000_5))) (k6 copied9 b42000_0 b42000_1 b42000_2 b42000_3 b42000_4 b42000_5)
noncomputable def it5 (Kb4 : Kont U El) (n : Nat) : Kont U El := iter nm5 (fun st' K' => exec X (cdp [1, 1, 1, 1, 1, 1, 1, 0, 1, 0, 0] bd) .d st' K' (Eblk 0 (cutK nm4 Kb4) (fun _ _ => none)) RR) n
noncomputable def it7 (Kb6 : Kont U El) (n : Nat) : Kont U El := iter nm7 (fun st' K' => exec X (cdp [1, 1, 1, 1, 1, 1, 1, 1, 1, 1, 0, 1, 0, 0] bd) .d st' K' (Eblk 2 (cutK nm6 Kb6) (fun _ _ => none)) RR) n
noncomputable def ct1 : Kont U El := fun st => exec X (cdp [1, 1, 1, 1] bd) (.seq (some nm2) .d (.seq none .d (.seq (some nm3) .d (.seq (some nm4) (.seq none .d (.block (.loop nm5 .d))) (.seq none .d (.seq none .d (.seq (some nm6) (.seq none .d (.block (.loop nm7 .d))) .d))))))) st RR (fun _ _ => none) RR
noncomputable def ct2 : Kont U El := fun st => exec X (cdp [1, 1, 1, 1, 1] bd) (.seq none .d (.seq (some nm3) .d (.seq (some nm4) (.seq none .d (.block (.loop nm5 .d))) (.seq none .d (.seq none .d (.seq (some nm6) (.seq none .d (.block (.loop nm7 .d))) .d)))))) st RR (fun _ _ => none) RR
noncomputable def ct3 : Kont U El := fun st => exec X (cdp [1, 1, 1, 1, 1, 1, 1] bd) (.seq (some nm4) (.seq none .d (.block (.loop nm5 .d))) (.seq none .d (.seq none .d (.seq (some nm6) (.seq none .d (.block (.loop nm7 .d))) .d)))) st RR (fun _ _ => none) RR
noncomputable def ct4 : Kont U El := fun st => exec X (cdp [1, 1, 1, 1, 1, 1, 1, 1] bd) (.seq none .d (.seq none .d (.seq (some nm6) (.seq none .d (.block (.loop nm7 .d))) .d))) st RR (fun _ _ => none) RR
noncomputable def ct6 : Kont U El := fun st => exec X (cdp [1, 1, 1, 1, 1, 1, 1, 1, 1, 1, 1] bd) .d st RR (fun _ _ => none) RR
theorem P0 (l : List Msg) : exec X (cdp [] bd) (.seq none .d (.seq none .d (.seq none .d (.seq (some nm1) .d (.seq (some nm2) .d (.seq none .d (.seq (some nm3) .d (.seq (some nm4) (.seq none .d (.block (.loop nm5 .d))) (.seq none .d (.seq none .d (.seq (some nm6) (.seq none .d (.block (.loop nm7 .d))) .d))))))))))) (fr0 l) RR (fun _ _ => none) RR = sh0 l (fun y0 => (hid ct1) (fr1 y0)) := by kernel_rfl
theorem P1 (l0 : List Msg) : exec X (cdp [1, 1, 1, 1] bd) (.seq (some nm2) .d (.seq none .d (.seq (some nm3) .d (.seq (some nm4) (.seq none .d (.block (.loop nm5 .d))) (.seq none .d (.seq none .d (.seq (some nm6) (.seq none .d (.block (.loop nm7 .d))) .d))))))) (fr1 l0) RR (fun _ _ => none) RR = sh1 l0 (fun y0 => (hid ct2) (fr2 y0)) := by kernel_rfl
theorem P2 (l0 : List Msg) : exec X (cdp [1, 1, 1, 1, 1] bd) (.seq none .d (.seq (some nm3) .d (.seq (some nm4) (.seq none .d (.block (.loop nm5 .d))) (.seq none .d (.seq none .d (.seq (some nm6) (.seq none .d (.block (.loop nm7 .d))) .d)))))) (fr2 l0) RR (fun _ _ => none) RR = sh2 l0 (fun y0 y1 y2 y3 y4 y5 y6 => (hid ct3) (fr3 y0 y1 y2 y3 y4 y5 y6)) := by kernel_rfl
theorem P3 (l0 : List Msg) (b42000_0 : Int) (b42000_1 : Int) (b42000_2 : Int) (b42000_3 : List (Key × Bool)) (b42000_4 : List Msg) (b42000_5 : List Msg) : exec X (cdp [1, 1, 1, 1, 1, 1, 1] bd) (.seq (some nm4) (.seq none .d (.block (.loop nm5 .d))) (.seq none .d (.seq none .d (.seq (some nm6) (.seq none .d (.block (.loop nm7 .d))) .d)))) (fr3 l0 b42000_0 b42000_1 b42000_2 b42000_3 b42000_4 b42000_5) RR (fun _ _ => none) RR = sh3 l0 b42000_0 b42000_1 b42000_2 b42000_3 b42000_4 b42000_5 (fun y0 y1 y2 y3 y4 y5 y6 y7 y8 => (hid (it5 (hid ct4) 100000)) (fr5 y0 y1 y2 y3 y4 y5 y6 y7 y8)) := by kernel_rfl
theorem P4 (b42000_0 : Int) (b42000_1 : Int) (b42000_2 : Int) (b42000_3 : List (Key × Bool)) (b42000_4 : List Msg) (b42000_5 : List Msg) : exec X (cdp [1, 1, 1, 1, 1, 1, 1, 1] bd) (.seq none .d (.seq none .d (.seq (some nm6) (.seq none .d (.block (.loop nm7 .d))) .d))) (fr4 b42000_0 b42000_1 b42000_2 b42000_3 b42000_4 b42000_5) RR (fun _ _ => none) RR = sh4 b42000_0 b42000_1 b42000_2 b42000_3 b42000_4 b42000_5 (fun y0 y1 y2 y3 y4 y5 y6 y7 y8 y9 => (hid (it7 (hid ct6) 100000)) (fr7 y0 y1 y2 y3 y4 y5 y6 y7 y8 y9)) := by kernel_rfl
theorem P5 (x51 : List Msg) (x52 : Int) (x53 : Int) (b42000_0 : Int) (b42000_1 : Int) (b42000_2 : Int) (b42000_3 : List (Key × Bool)) (b42000_4 : List Msg) (b42000_5 : List Msg) (Kb4 : Kont U El) (Kb5 : Kont U El) : exec X (cdp [1, 1, 1, 1, 1, 1, 1, 0, 1, 0, 0] bd) .d (fr5 x51 x52 x53 b42000_0 b42000_1 b42000_2 b42000_3 b42000_4 b42000_5) (cutK nm5 Kb5) (Eblk 0 (cutK nm4 Kb4) (fun _ _ => none)) RR = sh5 x51 x52 x53 b42000_0 b42000_1 b42000_2 b42000_3 b42000_4 b42000_5 (fun y0 y1 y2 y3 y4 y5 => Kb4 (fr4 y0 y1 y2 y3 y4 y5)) (fun y0 y1 y2 y3 y4 y5 y6 y7 y8 => Kb5 (fr5 y0 y1 y2 y3 y4 y5 y6 y7 y8)) := by kernel_rfl
theorem P6 (copied9 : List Msg) (b42000_0 : Int) (b42000_1 : Int) (b42000_2 : Int) (b42000_3 : List (Key × Bool)) (b42000_4 : List Msg) (b42000_5 : List Msg) : exec X (cdp [1, 1, 1, 1, 1, 1, 1, 1, 1, 1, 1] bd) .d (fr6 copied9 b42000_0 b42000_1 b42000_2 b42000_3 b42000_4 b42000_5) RR (fun _ _ => none) RR = sh6 copied9 b42000_0 b42000_1 b42000_2 b42000_3 b42000_4 b42000_5 := by kernel_rfl
theorem P7 (late8 : List Msg) (copied9 : List Msg) (x66 : Int) (x67 : Int) (b42000_0 : Int) (b42000_1 : Int) (b42000_2 : Int) (b42000_3 : List (Key × Bool)) (b42000_4 : List Msg) (b42000_5 : List Msg) (Kb6 : Kont U El) (Kb7 : Kont U El) : exec X (cdp [1, 1, 1, 1, 1, 1, 1, 1, 1, 1, 0, 1, 0, 0] bd) .d (fr7 late8 copied9 x66 x67 b42000_0 b42000_1 b42000_2 b42000_3 b42000_4 b42000_5) (cutK nm7 Kb7) (Eblk 2 (cutK nm6 Kb6) (fun _ _ => none)) RR = sh7 late8 copied9 x66 x67 b42000_0 b42000_1 b42000_2 b42000_3 b42000_4 b42000_5 (fun y0 y1 y2 y3 y4 y5 y6 => Kb6 (fr6 y0 y1 y2 y3 y4 y5 y6)) (fun y0 y1 y2 y3 y4 y5 y6 y7 y8 y9 => Kb7 (fr7 y0 y1 y2 y3 y4 y5 y6 y7 y8 y9)) := by kernel_rfl
noncomputable def f6 (copied9 : List Msg) (b42000_0 : Int) (b42000_1 : Int) (b42000_2 : Int) (b42000_3 : List (Key × Bool)) (b42000_4 : List Msg) (b42000_5 : List Msg) : R := sh6 copied9 b42000_0 b42000_1 b42000_2 b42000_3 b42000_4 b42000_5
noncomputable def f7 : Nat → (List Msg) → (List Msg) → Int → Int → Int → Int → Int → (List (Key × Bool)) → (List Msg) → (List Msg) → R
  | 0 => fun _ _ _ _ _ _ _ _ _ _ => none
  | n + 1 => fun late8 copied9 x66 x67 b42000_0 b42000_1 b42000_2 b42000_3 b42000_4 b42000_5 => sh7 late8 copied9 x66 x67 b42000_0 b42000_1 b42000_2 b42000_3 b42000_4 b42000_5 f6 (f7 n)
noncomputable def f4 (b42000_0 : Int) (b42000_1 : Int) (b42000_2 : Int) (b42000_3 : List (Key × Bool)) (b42000_4 : List Msg) (b42000_5 : List Msg) : R := sh4 b42000_0 b42000_1 b42000_2 b42000_3 b42000_4 b42000_5 (f7 100000)
noncomputable def f5 : Nat → (List Msg) → Int → Int → Int → Int → Int → (List (Key × Bool)) → (List Msg) → (List Msg) → R
  | 0 => fun _ _ _ _ _ _ _ _ _ => none
  | n + 1 => fun x51 x52 x53 b42000_0 b42000_1 b42000_2 b42000_3 b42000_4 b42000_5 => sh5 x51 x52 x53 b42000_0 b42000_1 b42000_2 b42000_3 b42000_4 b42000_5 f4 (f5 n)
noncomputable def f3 (l0 : List Msg) (b42000_0 : Int) (b42000_1 : Int) (b42000_2 : Int) (b42000_3 : List (Key × Bool)) (b42000_4 : List Msg) (b42000_5 : List Msg) : R := sh3 l0 b42000_0 b42000_1 b42000_2 b42000_3 b42000_4 b42000_5 (f5 100000)
noncomputable def f2 (l0 : List Msg) : R := sh2 l0 f3
noncomputable def f1 (l0 : List Msg) : R := sh1 l0 f2
noncomputable def f0 (l : List Msg) : R := sh0 l f1
theorem T6 (copied9 : List Msg) (b42000_0 : Int) (b42000_1 : Int) (b42000_2 : Int) (b42000_3 : List (Key × Bool)) (b42000_4 : List Msg) (b42000_5 : List Msg) : (hid ct6) (fr6 copied9 b42000_0 b42000_1 b42000_2 b42000_3 b42000_4 b42000_5) = f6 copied9 b42000_0 b42000_1 b42000_2 b42000_3 b42000_4 b42000_5 := by
  refine (congrFun (hid_eq _) _).trans <| (P6 copied9 b42000_0 b42000_1 b42000_2 b42000_3 b42000_4 b42000_5).trans ?_
  show _ = sh6 copied9 b42000_0 b42000_1 b42000_2 b42000_3 b42000_4 b42000_5
  rfl
theorem T7 : ∀ (n : Nat), ∀ late8 copied9 x66 x67 b42000_0 b42000_1 b42000_2 b42000_3 b42000_4 b42000_5, it7 (hid ct6) n (fr7 late8 copied9 x66 x67 b42000_0 b42000_1 b42000_2 b42000_3 b42000_4 b42000_5) = f7 n late8 copied9 x66 x67 b42000_0 b42000_1 b42000_2 b42000_3 b42000_4 b42000_5 := by
  intro n
  induction n with
  | zero => intros; rfl
  | succ n ih =>
    intro late8 copied9 x66 x67 b42000_0 b42000_1 b42000_2 b42000_3 b42000_4 b42000_5
    refine (P7 late8 copied9 x66 x67 b42000_0 b42000_1 b42000_2 b42000_3 b42000_4 b42000_5 (hid ct6) (it7 (hid ct6) n)).trans ?_
    show _ = sh7 late8 copied9 x66 x67 b42000_0 b42000_1 b42000_2 b42000_3 b42000_4 b42000_5 f6 (f7 n)
    simp only [T6, ih]
theorem H7 (late8 : List Msg) (copied9 : List Msg) (x66 : Int) (x67 : Int) (b42000_0 : Int) (b42000_1 : Int) (b42000_2 : Int) (b42000_3 : List (Key × Bool)) (b42000_4 : List Msg) (b42000_5 : List Msg) : hid (it7 (hid ct6) 100000) (fr7 late8 copied9 x66 x67 b42000_0 b42000_1 b42000_2 b42000_3 b42000_4 b42000_5) = f7 100000 late8 copied9 x66 x67 b42000_0 b42000_1 b42000_2 b42000_3 b42000_4 b42000_5 := (congrFun (hid_eq _) _).trans (T7 100000 late8 copied9 x66 x67 b42000_0 b42000_1 b42000_2 b42000_3 b42000_4 b42000_5)
theorem T4 (b42000_0 : Int) (b42000_1 : Int) (b42000_2 : Int) (b42000_3 : List (Key × Bool)) (b42000_4 : List Msg) (b42000_5 : List Msg) : (hid ct4) (fr4 b42000_0 b42000_1 b42000_2 b42000_3 b42000_4 b42000_5) = f4 b42000_0 b42000_1 b42000_2 b42000_3 b42000_4 b42000_5 := by
  refine (congrFun (hid_eq _) _).trans <| (P4 b42000_0 b42000_1 b42000_2 b42000_3 b42000_4 b42000_5).trans ?_
  show _ = sh4 b42000_0 b42000_1 b42000_2 b42000_3 b42000_4 b42000_5 (f7 100000)
  simp only [H7]
theorem T5 : ∀ (n : Nat), ∀ x51 x52 x53 b42000_0 b42000_1 b42000_2 b42000_3 b42000_4 b42000_5, it5 (hid ct4) n (fr5 x51 x52 x53 b42000_0 b42000_1 b42000_2 b42000_3 b42000_4 b42000_5) = f5 n x51 x52 x53 b42000_0 b42000_1 b42000_2 b42000_3 b42000_4 b42000_5 := by
  intro n
  induction n with
  | zero => intros; rfl
  | succ n ih =>
    intro x51 x52 x53 b42000_0 b42000_1 b42000_2 b42000_3 b42000_4 b42000_5
    refine (P5 x51 x52 x53 b42000_0 b42000_1 b42000_2 b42000_3 b42000_4 b42000_5 (hid ct4) (it5 (hid ct4) n)).trans ?_
    show _ = sh5 x51 x52 x53 b42000_0 b42000_1 b42000_2 b42000_3 b42000_4 b42000_5 f4 (f5 n)
    simp only [T4, ih]
theorem H5 (x51 : List Msg) (x52 : Int) (x53 : Int) (b42000_0 : Int) (b42000_1 : Int) (b42000_2 : Int) (b42000_3 : List (Key × Bool)) (b42000_4 : List Msg) (b42000_5 : List Msg) : hid (it5 (hid ct4) 100000) (fr5 x51 x52 x53 b42000_0 b42000_1 b42000_2 b42000_3 b42000_4 b42000_5) = f5 100000 x51 x52 x53 b42000_0 b42000_1 b42000_2 b42000_3 b42000_4 b42000_5 := (congrFun (hid_eq _) _).trans (T5 100000 x51 x52 x53 b42000_0 b42000_1 b42000_2 b42000_3 b42000_4 b42000_5)
theorem T3 (l0 : List Msg) (b42000_0 : Int) (b42000_1 : Int) (b42000_2 : Int) (b42000_3 : List (Key × Bool)) (b42000_4 : List Msg) (b42000_5 : List Msg) : (hid ct3) (fr3 l0 b42000_0 b42000_1 b42000_2 b42000_3 b42000_4 b42000_5) = f3 l0 b42000_0 b42000_1 b42000_2 b42000_3 b42000_4 b42000_5 := by
  refine (congrFun (hid_eq _) _).trans <| (P3 l0 b42000_0 b42000_1 b42000_2 b42000_3 b42000_4 b42000_5).trans ?_
  show _ = sh3 l0 b42000_0 b42000_1 b42000_2 b42000_3 b42000_4 b42000_5 (f5 100000)
  simp only [H5]
theorem T2 (l0 : List Msg) : (hid ct2) (fr2 l0) = f2 l0 := by
  refine (congrFun (hid_eq _) _).trans <| (P2 l0).trans ?_
  show _ = sh2 l0 f3
  simp only [T3]
theorem T1 (l0 : List Msg) : (hid ct1) (fr1 l0) = f1 l0 := by
  refine (congrFun (hid_eq _) _).trans <| (P1 l0).trans ?_
  show _ = sh1 l0 f2
  simp only [T2]
theorem T0 (l : List Msg) : exec X bd (.seq none .d (.seq none .d (.seq none .d (.seq (some nm1) .d (.seq (some nm2) .d (.seq none .d (.seq (some nm3) .d (.seq (some nm4) (.seq none .d (.block (.loop nm5 .d))) (.seq none .d (.seq none .d (.seq (some nm6) (.seq none .d (.block (.loop nm7 .d))) .d))))))))))) (fr0 l) RR (fun _ _ => none) RR = f0 l := by
  refine (P0 l).trans ?_
  show _ = sh0 l f1
  simp only [T1]
theorem run (l : List Msg) : runFn X bd (.seq none .d (.seq none .d (.seq none .d (.seq (some nm1) .d (.seq (some nm2) .d (.seq none .d (.seq (some nm3) .d (.seq (some nm4) (.seq none .d (.block (.loop nm5 .d))) (.seq none .d (.seq none .d (.seq (some nm6) (.seq none .d (.block (.loop nm7 .d))) .d))))))))))) nmR [2] [] [(.lst .msg l)] = f0 l := T0 l
theorem fin (s : FS) (h : s.lt.length ≤ 30) : ∀ (n i : Nat) (late : List Msg), late.length = s.lt.length → late.length < n + i → i ≤ late.length → f7 n late s.lt (Int.ofNat s.lt.length) (i : Int) s.dl s.mk_ s.ls s.got s.wt s.lt = outB true := by
  intro n
  induction n with
  | zero => intro i late h1 h2; omega
  | succ n ih =>
    intro i late h0 h1 h2
    show sh7 late s.lt (Int.ofNat s.lt.length) (i : Int) s.dl s.mk_ s.ls s.got s.wt s.lt f6 (f7 n) = _
    unfold sh7
    by_cases hi : i < late.length
    · rw [iltT (show (i : Int) < Int.ofNat s.lt.length by simp; omega), inbT hi, toNat_nat, nltT hi, wrapS i (by omega)]
      exact ih (i + 1) _ (by simp [h0]) (by simp; omega) (by simp; omega)
    · rw [iltF (by simp; omega)]
      show sh6 s.lt s.dl s.mk_ s.ls s.got s.wt s.lt = _
      unfold sh6
      rw [nleT (show s.lt.length ≤ 90000 by omega), eqL_self]
      rfl
theorem loop (l : List Msg) (hl : l.length ≤ 30) : ∀ (n i : Nat) (s : FS), l.length < n + i → i ≤ l.length → s.wt.length ≤ i → s.lt.length ≤ i →
    f5 n l (Int.ofNat l.length) (i : Int) s.dl s.mk_ s.ls s.got s.wt s.lt = outB true := by
  intro n
  induction n with
  | zero => intro i s h1 h2; omega
  | succ n ih =>
    intro i s h1 h2 h3 h4
    show sh5 l (Int.ofNat l.length) (i : Int) s.dl s.mk_ s.ls s.got s.wt s.lt f4 (f5 n) = _
    unfold sh5
    by_cases hi : i < l.length
    · rw [iltT (show (i : Int) < Int.ofNat l.length by simp; omega), inbT hi, toNat_nat, getD_lt hi]
      rw [show (⟨s.dl, s.mk_, s.ls, s.got, s.wt, s.lt⟩ : FS) = s from rfl]
      rw [show fsOk s = true by unfold fsOk; rw [nleT (by omega), nleT (by omega)]; rfl, wrapS i (by omega)]
      obtain ⟨k1, k2⟩ := len_put s l[i]
      exact ih (i + 1) (putS s l[i]) (by omega) hi (by omega) (by omega)
    · have : i = l.length := by omega
      subst this
      rw [iltF (by simp)]
      show sh4 s.dl s.mk_ s.ls s.got s.wt s.lt (f7 100000) = _
      unfold sh4
      rw [nleT (show s.lt.length ≤ 90000 by omega), nleT (show s.lt.length ≤ 100000 by omega)]
      exact fin s (by omega) 100000 0 s.lt rfl (by omega) (by omega)
theorem f0_eq (l : List Msg) : f0 l = outB true := by
  show f1 l = _
  show sh1 l f2 = _
  unfold sh1
  by_cases hl : l.length ≤ 30
  · rw [iltF (show ¬ (30 : Int) < Int.ofNat l.length by simp; omega), ileT (show (30 : Int) ≤ 80000 by decide)]
    cases manyB l 30
    rotate_left
    · rfl
    exact loop l hl 100000 0 ⟨0, -137438953472, -68719476736, [], [], []⟩ (by omega) (by omega) (by simp) (by simp)
  · rw [iltT (show (30 : Int) < Int.ofNat l.length by simp; omega)]
    rfl
theorem ok : CtxOk Try.prog X := ctxOk tab (by
  intro p hp
  simp only [List.mem_cons, List.not_mem_nil, or_false] at hp
  rcases hp with rfl | rfl | rfl | rfl
  · exact awake.spOk
  · exact many.spOk
  · exact equalM.spOk
  · exact cloneM.spOk) (by
  intro p hp
  cases hp)
theorem okM : MOk Try.prog X := mspecOf_ok _ (by
  intro p hp
  simp only [List.mem_cons, List.not_mem_nil, or_false] at hp
  rcases hp with rfl | rfl | rfl | rfl | rfl
  · exact mcSp_ok ok newF.spOk
  · exact mcSp_ok ok (orN_ok fputN.spOk fput.spOk)
  · exact mcSp_ok ok (orN_ok fmarkN.spOk fmark.spOk)
  · exact mcSp_ok ok (orN_ok flateN.spOk flate.spOk)
  · exact mcSp_ok ok (orN_ok freadyN.spOk fready.spOk))
theorem spec (l : List Msg) : CallSpec Try.prog E 5 [(.lst .msg l)] (.bool (true)) [] :=
  runFn_sound ok okM Try.call5 Try.func5 (by kernel_rfl) (by kernel_rfl) (by kernel_rfl) (by show 1 ≤ 79; decide) (by decide) (by rfl) ((run l).trans (f0_eq l))
noncomputable def sp : Sp U El := fun args k => match args with
  | [.lst .msg l] => k (.bool (true)) []
  | _ => none
theorem spOk : SpOk Try.prog E 5 sp where
  det := fun vs => by
    unfold sp
    split
    · exact ⟨some (_, _), fun _ => rfl⟩
    · exact ⟨none, fun _ => rfl⟩
  ok := fun vs k r h => by
    unfold sp at h
    split at h
    · exact ⟨_, _, spec _, h⟩
    · cases h
end lawNone
end Go.Proofs.Ytkeplmpcijigaaa
