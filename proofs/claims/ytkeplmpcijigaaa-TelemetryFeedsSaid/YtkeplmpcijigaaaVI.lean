/- The law TelemetryFeeds. -/
import Derived.Test.YtkeplmpcijigaaaVF
namespace Go.Proofs.Ytkeplmpcijigaaa
set_option linter.unusedSectionVars false
set_option linter.unusedSimpArgs false
set_option linter.unusedVariables false
set_option maxRecDepth 100000

namespace lawFeeds
noncomputable def bd : Code := (Try.f3.body).getD .skip
noncomputable def X : Ctx U El := ⟨E, tds, zeros, eqs, specOf [(9, awake.sp), (10, many.sp), (12, rput.sp), (15, rmark.sp), (16, equalM.sp), (18, rready.sp)], 100000, 126, dspecOf [(14, fmark.sp), (17, flate.sp)], mspecOf [(11, (mcSp newF.sp)), (13, (mcSp fput.sp)), (19, (mcSp fready.sp))]⟩
noncomputable def nmR : Norm U := ⟨[], [6], [], [], [], [], []⟩
noncomputable def RR : Kont U El := fun st => normK nmR st (retFin [6] [])
noncomputable def nm1 : Norm U := ⟨[], [0, 1, 2], [], [], [], [], []⟩
noncomputable def nm3 : Norm U := ⟨[], [0, 1, 2, 7], [34000, 503400003, 503400004, 503400005], [], [(34000, 3, .key, 503400003), (34000, 4, .msg, 503400004), (34000, 5, .msg, 503400005)], [], []⟩
noncomputable def nm4 : Norm U := ⟨[], [7, 9], [9, 34000, 503400003, 503400004, 503400005], [], [(34000, 3, .key, 503400003), (34000, 4, .msg, 503400004), (34000, 5, .msg, 503400005)], [], [(9, 1, .msg), (9, 2, .msg), (9, 3, .msg)]⟩
noncomputable def nm5 : Norm U := ⟨[], [2, 7, 9, 57, 58, 59], [9, 34000, 503400003, 503400004, 503400005], [], [(34000, 3, .key, 503400003), (34000, 4, .msg, 503400004), (34000, 5, .msg, 503400005)], [], [(9, 1, .msg), (9, 2, .msg), (9, 3, .msg)]⟩
noncomputable def nm6 : Norm U := ⟨[], [2, 7, 9, 57, 58, 59], [9, 34000, 503400003, 503400004, 503400005], [], [(34000, 3, .key, 503400003), (34000, 4, .msg, 503400004), (34000, 5, .msg, 503400005)], [], [(9, 1, .msg), (9, 2, .msg), (9, 3, .msg)]⟩
noncomputable def nm7 : Norm U := ⟨[], [2, 7, 9, 10, 57, 58, 59], [9, 34000, 503400003, 503400004, 503400005], [], [(34000, 3, .key, 503400003), (34000, 4, .msg, 503400004), (34000, 5, .msg, 503400005)], [], [(9, 1, .msg), (9, 2, .msg), (9, 3, .msg)]⟩
noncomputable def fr0 (d : Int) (l : List Msg) (tk : List Bool) : St U El := ⟨[(0, (.int .i64 d)), (1, (.lst .msg l)), (2, (.lst .bool tk))], []⟩
noncomputable def fr1 (delay0 : Int) (l1 : List Msg) (take2 : List Bool) : St U El := ⟨[(0, (.int .i64 delay0)), (1, (.lst .msg l1)), (2, (.lst .bool take2))], []⟩
noncomputable def fr3 (delay0 : Int) (l1 : List Msg) (take2 : List Bool) (b34000_0 : Int) (b34000_1 : Int) (b34000_2 : Int) (b34000_3 : List (Key × Bool)) (b34000_4 : List Msg) (b34000_5 : List Msg) : St U El := ⟨[(0, (.int .i64 delay0)), (1, (.lst .msg l1)), (2, (.lst .bool take2)), (7, (.ptr 34000 0))], [(34000, (.box 0 [(.int .i64 b34000_0), (.int .i64 b34000_1), (.int .i64 b34000_2), (.mp 503400003), (.ful 503400004), (.ful 503400005)])), (503400003, (.map .key .bool b34000_3)), (503400004, (.rows .msg b34000_4)), (503400005, (.rows .msg b34000_5))]⟩
noncomputable def fr4 (b9_0 : Int) (b9_1 : List Msg) (b9_2 : List Msg) (b9_3 : List Msg) (b34000_0 : Int) (b34000_1 : Int) (b34000_2 : Int) (b34000_3 : List (Key × Bool)) (b34000_4 : List Msg) (b34000_5 : List Msg) : St U El := ⟨[(7, (.ptr 34000 0)), (9, (.ptr 9 0))], [(9, (.box 0 [(.int .i64 b9_0), (.lst .msg b9_1), (.lst .msg b9_2), (.lst .msg b9_3)])), (34000, (.box 0 [(.int .i64 b34000_0), (.int .i64 b34000_1), (.int .i64 b34000_2), (.mp 503400003), (.ful 503400004), (.ful 503400005)])), (503400003, (.map .key .bool b34000_3)), (503400004, (.rows .msg b34000_4)), (503400005, (.rows .msg b34000_5))]⟩
noncomputable def fr5 (take2 : List Bool) (x57 : List Msg) (x58 : Int) (x59 : Int) (b9_0 : Int) (b9_1 : List Msg) (b9_2 : List Msg) (b9_3 : List Msg) (b34000_0 : Int) (b34000_1 : Int) (b34000_2 : Int) (b34000_3 : List (Key × Bool)) (b34000_4 : List Msg) (b34000_5 : List Msg) : St U El := ⟨[(2, (.lst .bool take2)), (7, (.ptr 34000 0)), (9, (.ptr 9 0)), (57, (.lst .msg x57)), (58, (.int .i64 x58)), (59, (.int .i64 x59))], [(9, (.box 0 [(.int .i64 b9_0), (.lst .msg b9_1), (.lst .msg b9_2), (.lst .msg b9_3)])), (34000, (.box 0 [(.int .i64 b34000_0), (.int .i64 b34000_1), (.int .i64 b34000_2), (.mp 503400003), (.ful 503400004), (.ful 503400005)])), (503400003, (.map .key .bool b34000_3)), (503400004, (.rows .msg b34000_4)), (503400005, (.rows .msg b34000_5))]⟩
noncomputable def fr6 (take2 : List Bool) (x57 : List Msg) (x58 : Int) (x59 : Int) (b9_0 : Int) (b9_1 : List Msg) (b9_2 : List Msg) (b9_3 : List Msg) (b34000_0 : Int) (b34000_1 : Int) (b34000_2 : Int) (b34000_3 : List (Key × Bool)) (b34000_4 : List Msg) (b34000_5 : List Msg) : St U El := ⟨[(2, (.lst .bool take2)), (7, (.ptr 34000 0)), (9, (.ptr 9 0)), (57, (.lst .msg x57)), (58, (.int .i64 x58)), (59, (.int .i64 x59))], [(9, (.box 0 [(.int .i64 b9_0), (.lst .msg b9_1), (.lst .msg b9_2), (.lst .msg b9_3)])), (34000, (.box 0 [(.int .i64 b34000_0), (.int .i64 b34000_1), (.int .i64 b34000_2), (.mp 503400003), (.ful 503400004), (.ful 503400005)])), (503400003, (.map .key .bool b34000_3)), (503400004, (.rows .msg b34000_4)), (503400005, (.rows .msg b34000_5))]⟩
noncomputable def fr7 (take2 : List Bool) (i10 : Int) (x57 : List Msg) (x58 : Int) (x59 : Int) (b9_0 : Int) (b9_1 : List Msg) (b9_2 : List Msg) (b9_3 : List Msg) (b34000_0 : Int) (b34000_1 : Int) (b34000_2 : Int) (b34000_3 : List (Key × Bool)) (b34000_4 : List Msg) (b34000_5 : List Msg) : St U El := ⟨[(2, (.lst .bool take2)), (7, (.ptr 34000 0)), (9, (.ptr 9 0)), (10, (.int .i64 i10)), (57, (.lst .msg x57)), (58, (.int .i64 x58)), (59, (.int .i64 x59))], [(9, (.box 0 [(.int .i64 b9_0), (.lst .msg b9_1), (.lst .msg b9_2), (.lst .msg b9_3)])), (34000, (.box 0 [(.int .i64 b34000_0), (.int .i64 b34000_1), (.int .i64 b34000_2), (.mp 503400003), (.ful 503400004), (.ful 503400005)])), (503400003, (.map .key .bool b34000_3)), (503400004, (.rows .msg b34000_4)), (503400005, (.rows .msg b34000_5))]⟩
noncomputable def sh0 (d : Int) (l : List Msg) (tk : List Bool) (k1 : Int → (List Msg) → (List Bool) → R) : R :=
  condB (!(true)) (some ((.bool false), [])) (condB (ilt (30 : Int) (Int.ofNat (List.length l))) (some ((.bool true), [])) (chk (ile (30 : Int) 80000) (condB (manyB l (30 : Int)) (some ((.bool true), [])) (condB (ilt (40 : Int) (Int.ofNat (List.length tk))) (some ((.bool true), [])) (k1 d l tk)))))
noncomputable def sh1 (delay0 : Int) (l1 : List Msg) (take2 : List Bool) (k3 : Int → (List Msg) → (List Bool) → Int → Int → Int → (List (Key × Bool)) → (List Msg) → (List Msg) → R) : R :=
  condB (ile 0 delay0 && ile delay0 68719476736) (condB (ilt delay0 (0 : Int)) (some ((.bool false), [])) (condB (ilt (68719476736 : Int) delay0) (some ((.bool false), [])) (k3 delay0 l1 take2 (delay0) (-137438953472 : Int) (-68719476736 : Int) ([]) ([]) ([])))) (condB (ilt delay0 (0 : Int)) (some ((.bool true), [])) (condB (ilt (68719476736 : Int) delay0) (some ((.bool true), [])) (some ((.bool false), []))))
noncomputable def sh3 (delay0 : Int) (l1 : List Msg) (take2 : List Bool) (b34000_0 : Int) (b34000_1 : Int) (b34000_2 : Int) (b34000_3 : List (Key × Bool)) (b34000_4 : List Msg) (b34000_5 : List Msg) (k5 : (List Bool) → (List Msg) → Int → Int → Int → (List Msg) → (List Msg) → (List Msg) → Int → Int → Int → (List (Key × Bool)) → (List Msg) → (List Msg) → R) : R :=
  k5 take2 l1 (Int.ofNat (List.length l1)) (0 : Int) delay0 ([] : List Msg) ([] : List Msg) ([] : List Msg) b34000_0 b34000_1 b34000_2 b34000_3 b34000_4 b34000_5
noncomputable def sh4 (b9_0 : Int) (b9_1 : List Msg) (b9_2 : List Msg) (b9_3 : List Msg) (b34000_0 : Int) (b34000_1 : Int) (b34000_2 : Int) (b34000_3 : List (Key × Bool)) (b34000_4 : List Msg) (b34000_5 : List Msg) : R :=
  chk (rfOk (⟨b9_0, b9_1, b9_2, b9_3⟩ : RF)) (chk ((keysB b34000_4 && nle (List.length b34000_4) 90000)) (chk (nle (List.length (sortM (List.filter (fun m => ilt (Msg.at_ m) b34000_1) b34000_4))) 90000) (condB (eqL (sortM (List.filter (fun m => ilt (Msg.at_ m) b34000_1) b34000_4)) (rreadyL (⟨b9_0, b9_1, b9_2, b9_3⟩ : RF))) (chk ((keysB (List.filter (fun m => !(ilt (Msg.at_ m) b34000_1)) b34000_4) && nle (List.length (List.filter (fun m => !(ilt (Msg.at_ m) b34000_1)) b34000_4)) 90000)) (some ((.bool ((Int.ofNat (List.length (sortM (List.filter (fun m => ilt (Msg.at_ m) b34000_1) (List.filter (fun m => !(ilt (Msg.at_ m) b34000_1)) b34000_4))))) == (0 : Int))), []))) (some ((.bool false), [])))))
noncomputable def sh5 (take2 : List Bool) (x57 : List Msg) (x58 : Int) (x59 : Int) (b9_0 : Int) (b9_1 : List Msg) (b9_2 : List Msg) (b9_3 : List Msg) (b34000_0 : Int) (b34000_1 : Int) (b34000_2 : Int) (b34000_3 : List (Key × Bool)) (b34000_4 : List Msg) (b34000_5 : List Msg) (k4 : Int → (List Msg) → (List Msg) → (List Msg) → Int → Int → Int → (List (Key × Bool)) → (List Msg) → (List Msg) → R) (k7 : (List Bool) → Int → (List Msg) → Int → Int → Int → (List Msg) → (List Msg) → (List Msg) → Int → Int → Int → (List (Key × Bool)) → (List Msg) → (List Msg) → R) : R :=
  condB (ilt x59 x58) (chk (inb x59 (List.length x57)) (chk (rfOk (⟨b9_0, b9_1, b9_2, b9_3⟩ : RF)) (chk (fsOk ⟨b34000_0, b34000_1, b34000_2, b34000_3, b34000_4, b34000_5⟩) (condB ((putE ⟨b34000_0, b34000_1, b34000_2, b34000_3, b34000_4, b34000_5⟩ (List.getD x57 (Int.toNat x59) d_msg)) != (rputE (⟨b9_0, b9_1, b9_2, b9_3⟩ : RF) (List.getD x57 (Int.toNat x59) d_msg))) (some ((.bool false), [])) (chk (nle (List.length (RF.gt (rputF (⟨b9_0, b9_1, b9_2, b9_3⟩ : RF) (List.getD x57 (Int.toNat x59) d_msg)))) 90000) (condB (((FS.mk_ (putS ⟨b34000_0, b34000_1, b34000_2, b34000_3, b34000_4, b34000_5⟩ (List.getD x57 (Int.toNat x59) d_msg)))) != (rmarkZ (rputF (⟨b9_0, b9_1, b9_2, b9_3⟩ : RF) (List.getD x57 (Int.toNat x59) d_msg)))) (some ((.bool false), [])) (chk (nle (List.length (FS.lt (putS ⟨b34000_0, b34000_1, b34000_2, b34000_3, b34000_4, b34000_5⟩ (List.getD x57 (Int.toNat x59) d_msg)))) 90000) (chk (nle (List.length ((FS.lt (putS ⟨b34000_0, b34000_1, b34000_2, b34000_3, b34000_4, b34000_5⟩ (List.getD x57 (Int.toNat x59) d_msg))))) 90000) (condB (!(eqL ((FS.lt (putS ⟨b34000_0, b34000_1, b34000_2, b34000_3, b34000_4, b34000_5⟩ (List.getD x57 (Int.toNat x59) d_msg)))) ((rputF (⟨b9_0, b9_1, b9_2, b9_3⟩ : RF) (List.getD x57 (Int.toNat x59) d_msg)).lt))) (some ((.bool false), [])) (k7 take2 x59 x57 x58 x59 ((rputF (⟨b9_0, b9_1, b9_2, b9_3⟩ : RF) (List.getD x57 (Int.toNat x59) d_msg)).dl) ((rputF (⟨b9_0, b9_1, b9_2, b9_3⟩ : RF) (List.getD x57 (Int.toNat x59) d_msg)).gt) ((rputF (⟨b9_0, b9_1, b9_2, b9_3⟩ : RF) (List.getD x57 (Int.toNat x59) d_msg)).wt) ((rputF (⟨b9_0, b9_1, b9_2, b9_3⟩ : RF) (List.getD x57 (Int.toNat x59) d_msg)).lt) b34000_0 (FS.mk_ (putS ⟨b34000_0, b34000_1, b34000_2, b34000_3, b34000_4, b34000_5⟩ (List.getD x57 (Int.toNat x59) d_msg))) (FS.ls (putS ⟨b34000_0, b34000_1, b34000_2, b34000_3, b34000_4, b34000_5⟩ (List.getD x57 (Int.toNat x59) d_msg))) (FS.got (putS ⟨b34000_0, b34000_1, b34000_2, b34000_3, b34000_4, b34000_5⟩ (List.getD x57 (Int.toNat x59) d_msg))) (FS.wt (putS ⟨b34000_0, b34000_1, b34000_2, b34000_3, b34000_4, b34000_5⟩ (List.getD x57 (Int.toNat x59) d_msg))) (FS.lt (putS ⟨b34000_0, b34000_1, b34000_2, b34000_3, b34000_4, b34000_5⟩ (List.getD x57 (Int.toNat x59) d_msg))))))))))))) (k4 b9_0 b9_1 b9_2 b9_3 b34000_0 b34000_1 b34000_2 b34000_3 b34000_4 b34000_5)
noncomputable def sh6 (take2 : List Bool) (x57 : List Msg) (x58 : Int) (x59 : Int) (b9_0 : Int) (b9_1 : List Msg) (b9_2 : List Msg) (b9_3 : List Msg) (b34000_0 : Int) (b34000_1 : Int) (b34000_2 : Int) (b34000_3 : List (Key × Bool)) (b34000_4 : List Msg) (b34000_5 : List Msg) (k5 : (List Bool) → (List Msg) → Int → Int → Int → (List Msg) → (List Msg) → (List Msg) → Int → Int → Int → (List (Key × Bool)) → (List Msg) → (List Msg) → R) : R :=
  k5 take2 x57 x58 (IntKind.wrap .i64 (x59 + (1 : Int))) b9_0 b9_1 b9_2 b9_3 b34000_0 b34000_1 b34000_2 b34000_3 b34000_4 b34000_5
noncomputable def sh7 (take2 : List Bool) (i10 : Int) (x57 : List Msg) (x58 : Int) (x59 : Int) (b9_0 : Int) (b9_1 : List Msg) (b9_2 : List Msg) (b9_3 : List Msg) (b34000_0 : Int) (b34000_1 : Int) (b34000_2 : Int) (b34000_3 : List (Key × Bool)) (b34000_4 : List Msg) (b34000_5 : List Msg) (k6 : (List Bool) → (List Msg) → Int → Int → Int → (List Msg) → (List Msg) → (List Msg) → Int → Int → Int → (List (Key × Bool)) → (List Msg) → (List Msg) → R) : R :=
  condB (ilt i10 (Int.ofNat (List.length take2))) (chk (inb i10 (List.length take2)) (condB (List.getD take2 (Int.toNat i10) d_bool) (chk (rfOk (⟨b9_0, b9_1, b9_2, b9_3⟩ : RF)) (chk ((keysB b34000_4 && nle (List.length b34000_4) 90000)) (chk (nle (List.length (sortM (List.filter (fun m => ilt (Msg.at_ m) b34000_1) b34000_4))) 90000) (condB (!(eqL (sortM (List.filter (fun m => ilt (Msg.at_ m) b34000_1) b34000_4)) (rreadyL (⟨b9_0, b9_1, b9_2, b9_3⟩ : RF)))) (some ((.bool false), [])) (k6 take2 x57 x58 x59 ((rreadyF (⟨b9_0, b9_1, b9_2, b9_3⟩ : RF)).dl) ((rreadyF (⟨b9_0, b9_1, b9_2, b9_3⟩ : RF)).gt) ((rreadyF (⟨b9_0, b9_1, b9_2, b9_3⟩ : RF)).wt) ((rreadyF (⟨b9_0, b9_1, b9_2, b9_3⟩ : RF)).lt) b34000_0 b34000_1 b34000_2 b34000_3 (List.filter (fun m => !(ilt (Msg.at_ m) b34000_1)) b34000_4) b34000_5))))) (k6 take2 x57 x58 x59 b9_0 b9_1 b9_2 b9_3 b34000_0 b34000_1 b34000_2 b34000_3 b34000_4 b34000_5))) (k6 take2 x57 x58 x59 b9_0 b9_1 b9_2 b9_3 b34000_0 b34000_1 b34000_2 b34000_3 b34000_4 b34000_5)
noncomputable def it5 (Kb4 : Kont U El) (n : Nat) : Kont U El := iter nm5 (fun st' K' => exec X (cdp [1, 1, 1, 1, 1, 1, 1, 0, 1, 0, 0] bd) (.seq none .d (.seq none .d (.seq (some nm6) (.block (.seq none .d (.seq none .d (.seq none .d (.seq none .d (.seq (some nm7) (.seq none (.region [(1, 34000), (1, 503400003), (1, 503400004), (1, 503400005), (7, 34000), (7, 77000), (7, 77001), (7, 77002)]) .d) .d)))))) .d))) st' K' (Eblk 0 (cutK nm4 Kb4) (fun _ _ => none)) RR) n
noncomputable def ct1 : Kont U El := fun st => exec X (cdp [1, 1, 1] bd) (.seq none .d (.seq none .d (.seq (some nm3) .d (.seq none .d (.seq (some nm4) (.seq none .d (.block (.loop nm5 (.seq none .d (.seq none .d (.seq (some nm6) (.block (.seq none .d (.seq none .d (.seq none .d (.seq none .d (.seq (some nm7) (.seq none (.region [(1, 34000), (1, 503400003), (1, 503400004), (1, 503400005), (7, 34000), (7, 77000), (7, 77001), (7, 77002)]) .d) .d)))))) .d)))))) .d))))) st RR (fun _ _ => none) RR
noncomputable def ct3 : Kont U El := fun st => exec X (cdp [1, 1, 1, 1, 1, 1] bd) (.seq none .d (.seq (some nm4) (.seq none .d (.block (.loop nm5 (.seq none .d (.seq none .d (.seq (some nm6) (.block (.seq none .d (.seq none .d (.seq none .d (.seq none .d (.seq (some nm7) (.seq none (.region [(1, 34000), (1, 503400003), (1, 503400004), (1, 503400005), (7, 34000), (7, 77000), (7, 77001), (7, 77002)]) .d) .d)))))) .d)))))) .d)) st RR (fun _ _ => none) RR
noncomputable def ct4 : Kont U El := fun st => exec X (cdp [1, 1, 1, 1, 1, 1, 1, 1] bd) .d st RR (fun _ _ => none) RR
noncomputable def ct6 (Kb4 : Kont U El) (Kb5 : Kont U El) : Kont U El := fun st => exec X (cdp [1, 1, 1, 1, 1, 1, 1, 0, 1, 0, 0, 1, 1, 1] bd) .d st (cutK nm5 Kb5) (Eblk 0 (cutK nm4 Kb4) (fun _ _ => none)) RR
noncomputable def ct7 (Kb4 : Kont U El) (Kb6 : Kont U El) : Kont U El := fun st => exec X (cdp [1, 1, 1, 1, 1, 1, 1, 0, 1, 0, 0, 1, 1, 0, 0, 1, 1, 1, 1, 1] bd) .d st (cutK nm6 Kb6) (Eblk 1 (cutK nm6 Kb6) (Eblk 0 (cutK nm4 Kb4) (fun _ _ => none))) RR
theorem P0 (d : Int) (l : List Msg) (tk : List Bool) : exec X (cdp [] bd) (.seq none .d (.seq none .d (.seq (some nm1) .d (.seq none .d (.seq none .d (.seq (some nm3) .d (.seq none .d (.seq (some nm4) (.seq none .d (.block (.loop nm5 (.seq none .d (.seq none .d (.seq (some nm6) (.block (.seq none .d (.seq none .d (.seq none .d (.seq none .d (.seq (some nm7) (.seq none (.region [(1, 34000), (1, 503400003), (1, 503400004), (1, 503400005), (7, 34000), (7, 77000), (7, 77001), (7, 77002)]) .d) .d)))))) .d)))))) .d)))))))) (fr0 d l tk) RR (fun _ _ => none) RR = sh0 d l tk (fun y0 y1 y2 => (hid ct1) (fr1 y0 y1 y2)) := by kernel_rfl
theorem P1 (delay0 : Int) (l1 : List Msg) (take2 : List Bool) : exec X (cdp [1, 1, 1] bd) (.seq none .d (.seq none .d (.seq (some nm3) .d (.seq none .d (.seq (some nm4) (.seq none .d (.block (.loop nm5 (.seq none .d (.seq none .d (.seq (some nm6) (.block (.seq none .d (.seq none .d (.seq none .d (.seq none .d (.seq (some nm7) (.seq none (.region [(1, 34000), (1, 503400003), (1, 503400004), (1, 503400005), (7, 34000), (7, 77000), (7, 77001), (7, 77002)]) .d) .d)))))) .d)))))) .d))))) (fr1 delay0 l1 take2) RR (fun _ _ => none) RR = sh1 delay0 l1 take2 (fun y0 y1 y2 y3 y4 y5 y6 y7 y8 => (hid ct3) (fr3 y0 y1 y2 y3 y4 y5 y6 y7 y8)) := by kernel_rfl
theorem P3 (delay0 : Int) (l1 : List Msg) (take2 : List Bool) (b34000_0 : Int) (b34000_1 : Int) (b34000_2 : Int) (b34000_3 : List (Key × Bool)) (b34000_4 : List Msg) (b34000_5 : List Msg) : exec X (cdp [1, 1, 1, 1, 1, 1] bd) (.seq none .d (.seq (some nm4) (.seq none .d (.block (.loop nm5 (.seq none .d (.seq none .d (.seq (some nm6) (.block (.seq none .d (.seq none .d (.seq none .d (.seq none .d (.seq (some nm7) (.seq none (.region [(1, 34000), (1, 503400003), (1, 503400004), (1, 503400005), (7, 34000), (7, 77000), (7, 77001), (7, 77002)]) .d) .d)))))) .d)))))) .d)) (fr3 delay0 l1 take2 b34000_0 b34000_1 b34000_2 b34000_3 b34000_4 b34000_5) RR (fun _ _ => none) RR = sh3 delay0 l1 take2 b34000_0 b34000_1 b34000_2 b34000_3 b34000_4 b34000_5 (fun y0 y1 y2 y3 y4 y5 y6 y7 y8 y9 y10 y11 y12 y13 => (hid (it5 (hid ct4) 100000)) (fr5 y0 y1 y2 y3 y4 y5 y6 y7 y8 y9 y10 y11 y12 y13)) := by kernel_rfl
theorem P4 (b9_0 : Int) (b9_1 : List Msg) (b9_2 : List Msg) (b9_3 : List Msg) (b34000_0 : Int) (b34000_1 : Int) (b34000_2 : Int) (b34000_3 : List (Key × Bool)) (b34000_4 : List Msg) (b34000_5 : List Msg) : exec X (cdp [1, 1, 1, 1, 1, 1, 1, 1] bd) .d (fr4 b9_0 b9_1 b9_2 b9_3 b34000_0 b34000_1 b34000_2 b34000_3 b34000_4 b34000_5) RR (fun _ _ => none) RR = sh4 b9_0 b9_1 b9_2 b9_3 b34000_0 b34000_1 b34000_2 b34000_3 b34000_4 b34000_5 := by kernel_rfl
theorem P5 (take2 : List Bool) (x57 : List Msg) (x58 : Int) (x59 : Int) (b9_0 : Int) (b9_1 : List Msg) (b9_2 : List Msg) (b9_3 : List Msg) (b34000_0 : Int) (b34000_1 : Int) (b34000_2 : Int) (b34000_3 : List (Key × Bool)) (b34000_4 : List Msg) (b34000_5 : List Msg) (Kb4 : Kont U El) (Kb5 : Kont U El) : exec X (cdp [1, 1, 1, 1, 1, 1, 1, 0, 1, 0, 0] bd) (.seq none .d (.seq none .d (.seq (some nm6) (.block (.seq none .d (.seq none .d (.seq none .d (.seq none .d (.seq (some nm7) (.seq none (.region [(1, 34000), (1, 503400003), (1, 503400004), (1, 503400005), (7, 34000), (7, 77000), (7, 77001), (7, 77002)]) .d) .d)))))) .d))) (fr5 take2 x57 x58 x59 b9_0 b9_1 b9_2 b9_3 b34000_0 b34000_1 b34000_2 b34000_3 b34000_4 b34000_5) (cutK nm5 Kb5) (Eblk 0 (cutK nm4 Kb4) (fun _ _ => none)) RR = sh5 take2 x57 x58 x59 b9_0 b9_1 b9_2 b9_3 b34000_0 b34000_1 b34000_2 b34000_3 b34000_4 b34000_5 (fun y0 y1 y2 y3 y4 y5 y6 y7 y8 y9 => Kb4 (fr4 y0 y1 y2 y3 y4 y5 y6 y7 y8 y9)) (fun y0 y1 y2 y3 y4 y5 y6 y7 y8 y9 y10 y11 y12 y13 y14 => (hid (ct7 Kb4 (hid (ct6 Kb4 Kb5)))) (fr7 y0 y1 y2 y3 y4 y5 y6 y7 y8 y9 y10 y11 y12 y13 y14)) := by kernel_rfl
theorem P6 (take2 : List Bool) (x57 : List Msg) (x58 : Int) (x59 : Int) (b9_0 : Int) (b9_1 : List Msg) (b9_2 : List Msg) (b9_3 : List Msg) (b34000_0 : Int) (b34000_1 : Int) (b34000_2 : Int) (b34000_3 : List (Key × Bool)) (b34000_4 : List Msg) (b34000_5 : List Msg) (Kb4 : Kont U El) (Kb5 : Kont U El) : exec X (cdp [1, 1, 1, 1, 1, 1, 1, 0, 1, 0, 0, 1, 1, 1] bd) .d (fr6 take2 x57 x58 x59 b9_0 b9_1 b9_2 b9_3 b34000_0 b34000_1 b34000_2 b34000_3 b34000_4 b34000_5) (cutK nm5 Kb5) (Eblk 0 (cutK nm4 Kb4) (fun _ _ => none)) RR = sh6 take2 x57 x58 x59 b9_0 b9_1 b9_2 b9_3 b34000_0 b34000_1 b34000_2 b34000_3 b34000_4 b34000_5 (fun y0 y1 y2 y3 y4 y5 y6 y7 y8 y9 y10 y11 y12 y13 => Kb5 (fr5 y0 y1 y2 y3 y4 y5 y6 y7 y8 y9 y10 y11 y12 y13)) := by kernel_rfl
theorem P7 (take2 : List Bool) (i10 : Int) (x57 : List Msg) (x58 : Int) (x59 : Int) (b9_0 : Int) (b9_1 : List Msg) (b9_2 : List Msg) (b9_3 : List Msg) (b34000_0 : Int) (b34000_1 : Int) (b34000_2 : Int) (b34000_3 : List (Key × Bool)) (b34000_4 : List Msg) (b34000_5 : List Msg) (Kb4 : Kont U El) (Kb6 : Kont U El) : exec X (cdp [1, 1, 1, 1, 1, 1, 1, 0, 1, 0, 0, 1, 1, 0, 0, 1, 1, 1, 1, 1] bd) .d (fr7 take2 i10 x57 x58 x59 b9_0 b9_1 b9_2 b9_3 b34000_0 b34000_1 b34000_2 b34000_3 b34000_4 b34000_5) (cutK nm6 Kb6) (Eblk 1 (cutK nm6 Kb6) (Eblk 0 (cutK nm4 Kb4) (fun _ _ => none))) RR = sh7 take2 i10 x57 x58 x59 b9_0 b9_1 b9_2 b9_3 b34000_0 b34000_1 b34000_2 b34000_3 b34000_4 b34000_5 (fun y0 y1 y2 y3 y4 y5 y6 y7 y8 y9 y10 y11 y12 y13 => Kb6 (fr6 y0 y1 y2 y3 y4 y5 y6 y7 y8 y9 y10 y11 y12 y13)) := by kernel_rfl
noncomputable def f4 (b9_0 : Int) (b9_1 : List Msg) (b9_2 : List Msg) (b9_3 : List Msg) (b34000_0 : Int) (b34000_1 : Int) (b34000_2 : Int) (b34000_3 : List (Key × Bool)) (b34000_4 : List Msg) (b34000_5 : List Msg) : R := sh4 b9_0 b9_1 b9_2 b9_3 b34000_0 b34000_1 b34000_2 b34000_3 b34000_4 b34000_5
noncomputable def f6 (k5 : (List Bool) → (List Msg) → Int → Int → Int → (List Msg) → (List Msg) → (List Msg) → Int → Int → Int → (List (Key × Bool)) → (List Msg) → (List Msg) → R) (take2 : List Bool) (x57 : List Msg) (x58 : Int) (x59 : Int) (b9_0 : Int) (b9_1 : List Msg) (b9_2 : List Msg) (b9_3 : List Msg) (b34000_0 : Int) (b34000_1 : Int) (b34000_2 : Int) (b34000_3 : List (Key × Bool)) (b34000_4 : List Msg) (b34000_5 : List Msg) : R := sh6 take2 x57 x58 x59 b9_0 b9_1 b9_2 b9_3 b34000_0 b34000_1 b34000_2 b34000_3 b34000_4 b34000_5 k5
noncomputable def f7 (k5 : (List Bool) → (List Msg) → Int → Int → Int → (List Msg) → (List Msg) → (List Msg) → Int → Int → Int → (List (Key × Bool)) → (List Msg) → (List Msg) → R) (take2 : List Bool) (i10 : Int) (x57 : List Msg) (x58 : Int) (x59 : Int) (b9_0 : Int) (b9_1 : List Msg) (b9_2 : List Msg) (b9_3 : List Msg) (b34000_0 : Int) (b34000_1 : Int) (b34000_2 : Int) (b34000_3 : List (Key × Bool)) (b34000_4 : List Msg) (b34000_5 : List Msg) : R := sh7 take2 i10 x57 x58 x59 b9_0 b9_1 b9_2 b9_3 b34000_0 b34000_1 b34000_2 b34000_3 b34000_4 b34000_5 (f6 k5)
noncomputable def f5 : Nat → (List Bool) → (List Msg) → Int → Int → Int → (List Msg) → (List Msg) → (List Msg) → Int → Int → Int → (List (Key × Bool)) → (List Msg) → (List Msg) → R
  | 0 => fun _ _ _ _ _ _ _ _ _ _ _ _ _ _ => none
  | n + 1 => fun take2 x57 x58 x59 b9_0 b9_1 b9_2 b9_3 b34000_0 b34000_1 b34000_2 b34000_3 b34000_4 b34000_5 => sh5 take2 x57 x58 x59 b9_0 b9_1 b9_2 b9_3 b34000_0 b34000_1 b34000_2 b34000_3 b34000_4 b34000_5 f4 (f7 (f5 n))
noncomputable def f3 (delay0 : Int) (l1 : List Msg) (take2 : List Bool) (b34000_0 : Int) (b34000_1 : Int) (b34000_2 : Int) (b34000_3 : List (Key × Bool)) (b34000_4 : List Msg) (b34000_5 : List Msg) : R := sh3 delay0 l1 take2 b34000_0 b34000_1 b34000_2 b34000_3 b34000_4 b34000_5 (f5 100000)
noncomputable def f1 (delay0 : Int) (l1 : List Msg) (take2 : List Bool) : R := sh1 delay0 l1 take2 f3
noncomputable def f0 (d : Int) (l : List Msg) (tk : List Bool) : R := sh0 d l tk f1
theorem T4 (b9_0 : Int) (b9_1 : List Msg) (b9_2 : List Msg) (b9_3 : List Msg) (b34000_0 : Int) (b34000_1 : Int) (b34000_2 : Int) (b34000_3 : List (Key × Bool)) (b34000_4 : List Msg) (b34000_5 : List Msg) : (hid ct4) (fr4 b9_0 b9_1 b9_2 b9_3 b34000_0 b34000_1 b34000_2 b34000_3 b34000_4 b34000_5) = f4 b9_0 b9_1 b9_2 b9_3 b34000_0 b34000_1 b34000_2 b34000_3 b34000_4 b34000_5 := by
  refine (congrFun (hid_eq _) _).trans <| (P4 b9_0 b9_1 b9_2 b9_3 b34000_0 b34000_1 b34000_2 b34000_3 b34000_4 b34000_5).trans ?_
  show _ = sh4 b9_0 b9_1 b9_2 b9_3 b34000_0 b34000_1 b34000_2 b34000_3 b34000_4 b34000_5
  rfl
theorem T6 (KL5 : Kont U El) (k5 : (List Bool) → (List Msg) → Int → Int → Int → (List Msg) → (List Msg) → (List Msg) → Int → Int → Int → (List (Key × Bool)) → (List Msg) → (List Msg) → R) (h5 : ∀ take2 x57 x58 x59 b9_0 b9_1 b9_2 b9_3 b34000_0 b34000_1 b34000_2 b34000_3 b34000_4 b34000_5, KL5 (fr5 take2 x57 x58 x59 b9_0 b9_1 b9_2 b9_3 b34000_0 b34000_1 b34000_2 b34000_3 b34000_4 b34000_5) = k5 take2 x57 x58 x59 b9_0 b9_1 b9_2 b9_3 b34000_0 b34000_1 b34000_2 b34000_3 b34000_4 b34000_5) (take2 : List Bool) (x57 : List Msg) (x58 : Int) (x59 : Int) (b9_0 : Int) (b9_1 : List Msg) (b9_2 : List Msg) (b9_3 : List Msg) (b34000_0 : Int) (b34000_1 : Int) (b34000_2 : Int) (b34000_3 : List (Key × Bool)) (b34000_4 : List Msg) (b34000_5 : List Msg) : (hid (ct6 (hid ct4) KL5)) (fr6 take2 x57 x58 x59 b9_0 b9_1 b9_2 b9_3 b34000_0 b34000_1 b34000_2 b34000_3 b34000_4 b34000_5) = f6 k5 take2 x57 x58 x59 b9_0 b9_1 b9_2 b9_3 b34000_0 b34000_1 b34000_2 b34000_3 b34000_4 b34000_5 := by
  refine (congrFun (hid_eq _) _).trans <| (P6 take2 x57 x58 x59 b9_0 b9_1 b9_2 b9_3 b34000_0 b34000_1 b34000_2 b34000_3 b34000_4 b34000_5 (hid ct4) KL5).trans ?_
  show _ = sh6 take2 x57 x58 x59 b9_0 b9_1 b9_2 b9_3 b34000_0 b34000_1 b34000_2 b34000_3 b34000_4 b34000_5 k5
  simp only [h5]
theorem T7 (KL5 : Kont U El) (k5 : (List Bool) → (List Msg) → Int → Int → Int → (List Msg) → (List Msg) → (List Msg) → Int → Int → Int → (List (Key × Bool)) → (List Msg) → (List Msg) → R) (h5 : ∀ take2 x57 x58 x59 b9_0 b9_1 b9_2 b9_3 b34000_0 b34000_1 b34000_2 b34000_3 b34000_4 b34000_5, KL5 (fr5 take2 x57 x58 x59 b9_0 b9_1 b9_2 b9_3 b34000_0 b34000_1 b34000_2 b34000_3 b34000_4 b34000_5) = k5 take2 x57 x58 x59 b9_0 b9_1 b9_2 b9_3 b34000_0 b34000_1 b34000_2 b34000_3 b34000_4 b34000_5) (take2 : List Bool) (i10 : Int) (x57 : List Msg) (x58 : Int) (x59 : Int) (b9_0 : Int) (b9_1 : List Msg) (b9_2 : List Msg) (b9_3 : List Msg) (b34000_0 : Int) (b34000_1 : Int) (b34000_2 : Int) (b34000_3 : List (Key × Bool)) (b34000_4 : List Msg) (b34000_5 : List Msg) : (hid (ct7 (hid ct4) (hid (ct6 (hid ct4) KL5)))) (fr7 take2 i10 x57 x58 x59 b9_0 b9_1 b9_2 b9_3 b34000_0 b34000_1 b34000_2 b34000_3 b34000_4 b34000_5) = f7 k5 take2 i10 x57 x58 x59 b9_0 b9_1 b9_2 b9_3 b34000_0 b34000_1 b34000_2 b34000_3 b34000_4 b34000_5 := by
  refine (congrFun (hid_eq _) _).trans <| (P7 take2 i10 x57 x58 x59 b9_0 b9_1 b9_2 b9_3 b34000_0 b34000_1 b34000_2 b34000_3 b34000_4 b34000_5 (hid ct4) (hid (ct6 (hid ct4) KL5))).trans ?_
  show _ = sh7 take2 i10 x57 x58 x59 b9_0 b9_1 b9_2 b9_3 b34000_0 b34000_1 b34000_2 b34000_3 b34000_4 b34000_5 (f6 k5)
  simp only [T6 KL5 k5 h5]
theorem T5 : ∀ (n : Nat), ∀ take2 x57 x58 x59 b9_0 b9_1 b9_2 b9_3 b34000_0 b34000_1 b34000_2 b34000_3 b34000_4 b34000_5, it5 (hid ct4) n (fr5 take2 x57 x58 x59 b9_0 b9_1 b9_2 b9_3 b34000_0 b34000_1 b34000_2 b34000_3 b34000_4 b34000_5) = f5 n take2 x57 x58 x59 b9_0 b9_1 b9_2 b9_3 b34000_0 b34000_1 b34000_2 b34000_3 b34000_4 b34000_5 := by
  intro n
  induction n with
  | zero => intros; rfl
  | succ n ih =>
    intro take2 x57 x58 x59 b9_0 b9_1 b9_2 b9_3 b34000_0 b34000_1 b34000_2 b34000_3 b34000_4 b34000_5
    refine (P5 take2 x57 x58 x59 b9_0 b9_1 b9_2 b9_3 b34000_0 b34000_1 b34000_2 b34000_3 b34000_4 b34000_5 (hid ct4) (it5 (hid ct4) n)).trans ?_
    show _ = sh5 take2 x57 x58 x59 b9_0 b9_1 b9_2 b9_3 b34000_0 b34000_1 b34000_2 b34000_3 b34000_4 b34000_5 f4 (f7 (f5 n))
    simp only [T4, T7 (it5 (hid ct4) n) (f5 n) ih]
theorem H5 (take2 : List Bool) (x57 : List Msg) (x58 : Int) (x59 : Int) (b9_0 : Int) (b9_1 : List Msg) (b9_2 : List Msg) (b9_3 : List Msg) (b34000_0 : Int) (b34000_1 : Int) (b34000_2 : Int) (b34000_3 : List (Key × Bool)) (b34000_4 : List Msg) (b34000_5 : List Msg) : hid (it5 (hid ct4) 100000) (fr5 take2 x57 x58 x59 b9_0 b9_1 b9_2 b9_3 b34000_0 b34000_1 b34000_2 b34000_3 b34000_4 b34000_5) = f5 100000 take2 x57 x58 x59 b9_0 b9_1 b9_2 b9_3 b34000_0 b34000_1 b34000_2 b34000_3 b34000_4 b34000_5 := (congrFun (hid_eq _) _).trans (T5 100000 take2 x57 x58 x59 b9_0 b9_1 b9_2 b9_3 b34000_0 b34000_1 b34000_2 b34000_3 b34000_4 b34000_5)
theorem T3 (delay0 : Int) (l1 : List Msg) (take2 : List Bool) (b34000_0 : Int) (b34000_1 : Int) (b34000_2 : Int) (b34000_3 : List (Key × Bool)) (b34000_4 : List Msg) (b34000_5 : List Msg) : (hid ct3) (fr3 delay0 l1 take2 b34000_0 b34000_1 b34000_2 b34000_3 b34000_4 b34000_5) = f3 delay0 l1 take2 b34000_0 b34000_1 b34000_2 b34000_3 b34000_4 b34000_5 := by
  refine (congrFun (hid_eq _) _).trans <| (P3 delay0 l1 take2 b34000_0 b34000_1 b34000_2 b34000_3 b34000_4 b34000_5).trans ?_
  show _ = sh3 delay0 l1 take2 b34000_0 b34000_1 b34000_2 b34000_3 b34000_4 b34000_5 (f5 100000)
  simp only [H5]
theorem T1 (delay0 : Int) (l1 : List Msg) (take2 : List Bool) : (hid ct1) (fr1 delay0 l1 take2) = f1 delay0 l1 take2 := by
  refine (congrFun (hid_eq _) _).trans <| (P1 delay0 l1 take2).trans ?_
  show _ = sh1 delay0 l1 take2 f3
  simp only [T3]
theorem T0 (d : Int) (l : List Msg) (tk : List Bool) : exec X bd (.seq none .d (.seq none .d (.seq (some nm1) .d (.seq none .d (.seq none .d (.seq (some nm3) .d (.seq none .d (.seq (some nm4) (.seq none .d (.block (.loop nm5 (.seq none .d (.seq none .d (.seq (some nm6) (.block (.seq none .d (.seq none .d (.seq none .d (.seq none .d (.seq (some nm7) (.seq none (.region [(1, 34000), (1, 503400003), (1, 503400004), (1, 503400005), (7, 34000), (7, 77000), (7, 77001), (7, 77002)]) .d) .d)))))) .d)))))) .d)))))))) (fr0 d l tk) RR (fun _ _ => none) RR = f0 d l tk := by
  refine (P0 d l tk).trans ?_
  show _ = sh0 d l tk f1
  simp only [T1]
theorem run (d : Int) (l : List Msg) (tk : List Bool) : runFn X bd (.seq none .d (.seq none .d (.seq (some nm1) .d (.seq none .d (.seq none .d (.seq (some nm3) .d (.seq none .d (.seq (some nm4) (.seq none .d (.block (.loop nm5 (.seq none .d (.seq none .d (.seq (some nm6) (.block (.seq none .d (.seq none .d (.seq none .d (.seq none .d (.seq (some nm7) (.seq none (.region [(1, 34000), (1, 503400003), (1, 503400004), (1, 503400005), (7, 34000), (7, 77000), (7, 77001), (7, 77002)]) .d) .d)))))) .d)))))) .d)))))))) nmR [6] [] [(.int .i64 d), (.lst .msg l), (.lst .bool tk)] = f0 d l tk := T0 d l tk
theorem fin {s : FS} {x : RF} (h : Side s x) : f4 x.dl x.gt x.wt x.lt s.dl s.mk_ s.ls s.got s.wt s.lt = outB true := by
  obtain ⟨e1, h2⟩ := side_ready h
  have hw := h.w1
  have hf := h.few
  have hw2 := h2.w1
  show sh4 x.dl x.gt x.wt x.lt s.dl s.mk_ s.ls s.got s.wt s.lt = _
  unfold sh4
  rw [show (⟨x.dl, x.gt, x.wt, x.lt⟩ : RF) = x from rfl, side_rfOk h, h.keys, nleT (show s.wt.length ≤ 90000 by omega)]
  rw [show sortM (List.filter (fun m => ilt (Msg.at_ m) s.mk_) s.wt) = readyL s from rfl, e1, eqL_self]
  have hl : (rreadyL x).length ≤ 90000 := by
    rw [← e1]
    have : (readyL s).length = (List.filter (fun m => ilt (Msg.at_ m) s.mk_) s.wt).length := (sortM_perm _).length_eq
    have : (List.filter (fun m => ilt (Msg.at_ m) s.mk_) s.wt).length ≤ s.wt.length := List.length_filter_le _ _
    omega
  rw [nleT hl, show keysB (List.filter (fun m => !(ilt (Msg.at_ m) s.mk_)) s.wt) = true from h2.keys, nleT (show (List.filter (fun m => !(ilt (Msg.at_ m) s.mk_)) s.wt).length ≤ 90000 from Nat.le_trans (show _ ≤ x.gt.length from hw2) (by omega))]
  have e3 : sortM (List.filter (fun m => ilt (Msg.at_ m) s.mk_) (List.filter (fun m => !(ilt (Msg.at_ m) s.mk_)) s.wt)) = [] := ready_twice s
  rw [e3]
  rfl
theorem loop (l : List Msg) (tk : List Bool) (hl : l.length ≤ 30) (ht : tk.length ≤ 40) : ∀ (n i : Nat) (s : FS) (x : RF), l.length < n + i → i ≤ l.length → Side s x → x.gt.length ≤ i →
    f5 n tk l (Int.ofNat l.length) (i : Int) x.dl x.gt x.wt x.lt s.dl s.mk_ s.ls s.got s.wt s.lt = outB true := by
  intro n
  induction n with
  | zero => intro i s x h1 h2; omega
  | succ n ih =>
    intro i s x h1 h2 h h3
    show sh5 tk l (Int.ofNat l.length) (i : Int) x.dl x.gt x.wt x.lt s.dl s.mk_ s.ls s.got s.wt s.lt f4 (f7 (f5 n)) = _
    unfold sh5
    by_cases hi : i < l.length
    · rw [iltT (show (i : Int) < Int.ofNat l.length by simp; omega), inbT hi, toNat_nat, getD_lt hi]
      rw [show (⟨x.dl, x.gt, x.wt, x.lt⟩ : RF) = x from rfl, show (⟨s.dl, s.mk_, s.ls, s.got, s.wt, s.lt⟩ : FS) = s from rfl, side_rfOk h, side_fsOk h, side_putE h]
      have h' := side_put h l[i] (by omega)
      generalize hs' : putS s l[i] = s' at h' ⊢
      generalize hx' : rputF x l[i] = x' at h' ⊢
      have hg : x'.gt.length ≤ i + 1 := by
        rw [← hx']
        unfold rputF
        simp only
        cases rputE x l[i] == 0
        · show x.gt.length ≤ _; omega
        · show (x.gt ++ [l[i]]).length ≤ _; simp; omega
      have hd : s.dl = s'.dl := by rw [← hs']; rfl
      have hl1 := h'.l1
      have hf := h'.few
      rw [show (rputE x l[i] != rputE x l[i]) = false by simp, nleT (show x'.gt.length ≤ 90000 by omega), h'.mkz, show (rmarkZ x' != rmarkZ x') = false by simp, h'.lt, nleT (show x'.lt.length ≤ 90000 by rw [← h'.lt]; omega), eqL_self]
      simp only [chkT, condT, condF, Bool.not_true]
      rw [hd]
      have next : ∀ (s1 : FS) (x1 : RF), Side s1 x1 → x1.gt.length ≤ i + 1 → f6 (f5 n) tk l (Int.ofNat l.length) (i : Int) x1.dl x1.gt x1.wt x1.lt s1.dl s1.mk_ s1.ls s1.got s1.wt s1.lt = outB true := fun s1 x1 hs hg1 => by
        show f5 n tk l (Int.ofNat l.length) (IntKind.wrap .i64 ((i : Int) + 1)) x1.dl x1.gt x1.wt x1.lt s1.dl s1.mk_ s1.ls s1.got s1.wt s1.lt = _
        rw [wrapS i (by omega)]
        exact ih (i + 1) s1 x1 (by omega) hi hs hg1
      show sh7 tk (i : Int) l (Int.ofNat l.length) (i : Int) x'.dl x'.gt x'.wt x'.lt s'.dl (rmarkZ x') s'.ls s'.got s'.wt x'.lt (f6 (f5 n)) = _
      rw [← h'.mkz, ← h'.lt]
      unfold sh7
      have hn := next s' x' h' hg
      by_cases hj : i < tk.length
      · rw [iltT (show (i : Int) < Int.ofNat tk.length by simp; omega), inbT hj]
        rw [h'.lt] at hn ⊢
        cases List.getD tk (Int.toNat (i : Int)) d_bool
        · exact hn
        · obtain ⟨e1, h4⟩ := side_ready h'
          have hw := h'.w1
          rw [show (⟨x'.dl, x'.gt, x'.wt, x'.lt⟩ : RF) = x' from rfl, side_rfOk h', h'.keys, nleT (show s'.wt.length ≤ 90000 by omega)]
          rw [show sortM (List.filter (fun m => ilt (Msg.at_ m) s'.mk_) s'.wt) = readyL s' from rfl, e1, eqL_self]
          have hle : (rreadyL x').length ≤ 90000 := by
            rw [← e1]
            have : (readyL s').length = (List.filter (fun m => ilt (Msg.at_ m) s'.mk_) s'.wt).length := (sortM_perm _).length_eq
            have : (List.filter (fun m => ilt (Msg.at_ m) s'.mk_) s'.wt).length ≤ s'.wt.length := List.length_filter_le _ _
            omega
          rw [nleT hle]
          simp only [chkT, condT, condF, Bool.not_true, Bool.and_self]
          have := next (readyS s') (rreadyF x') h4 hg
          rw [← h'.lt]
          exact this
      · rw [iltF (show ¬ (i : Int) < Int.ofNat tk.length by simp; omega)]
        rw [h'.lt] at hn ⊢
        exact hn
    · have : i = l.length := by omega
      subst this
      rw [iltF (by simp)]
      exact fin h
theorem f0_eq (d : Int) (l : List Msg) (tk : List Bool) : f0 d l tk = outB true := by
  show sh0 d l tk f1 = _
  unfold sh0
  by_cases hl : l.length ≤ 30
  · rw [iltF (show ¬ (30 : Int) < Int.ofNat l.length by simp; omega), ileT (show (30 : Int) ≤ 80000 by decide)]
    simp only [condT, condF, chkT, Bool.not_true]
    cases manyB l 30
    rotate_left
    · rfl
    by_cases ht : tk.length ≤ 40
    · rw [iltF (show ¬ (40 : Int) < Int.ofNat tk.length by simp; omega)]
      show sh1 d l tk f3 = _
      unfold sh1
      by_cases h0 : 0 ≤ d
      · by_cases h1 : d ≤ 68719476736
        · rw [ileT h0, ileT h1, iltF (by omega), iltF (by omega)]
          exact loop l tk hl ht 100000 0 _ _ (by omega) (by omega) (start h0 h1) (by simp)
        · rw [ileT h0, ileF h1, iltT (show (68719476736 : Int) < d by omega)]
          cases ilt d 0 <;> rfl
      · rw [ileF h0, iltT (show d < 0 by omega)]
        rfl
    · rw [iltT (show (40 : Int) < Int.ofNat tk.length by simp; omega)]
      rfl
  · rw [iltT (show (30 : Int) < Int.ofNat l.length by simp; omega)]
    rfl
theorem ok : CtxOk Try.prog X := ctxOk tab (by
  intro p hp
  simp only [List.mem_cons, List.not_mem_nil, or_false] at hp
  rcases hp with rfl | rfl | rfl | rfl | rfl | rfl
  · exact awake.spOk
  · exact many.spOk
  · exact rput.spOk
  · exact rmark.spOk
  · exact equalM.spOk
  · exact rready.spOk) (by
  intro p hp
  simp only [List.mem_cons, List.not_mem_nil, or_false] at hp
  rcases hp with rfl | rfl
  · exact ⟨fmark.spOk, fmark.spDet⟩
  · exact ⟨flate.spOk, flate.spDet⟩)
theorem okM : MOk Try.prog X := mspecOf_ok _ (by
  intro p hp
  simp only [List.mem_cons, List.not_mem_nil, or_false] at hp
  rcases hp with rfl | rfl | rfl
  · exact mcSp_ok ok newF.spOk
  · exact mcSp_ok ok fput.spOk
  · exact mcSp_ok ok fready.spOk)
theorem spec (d : Int) (l : List Msg) (tk : List Bool) : CallSpec Try.prog E 3 [(.int .i64 d), (.lst .msg l), (.lst .bool tk)] (.bool (true)) [] :=
  runFn_sound ok okM Try.call3 Try.func3 (by kernel_rfl) (by kernel_rfl) (by kernel_rfl) (by show 3 ≤ 126; decide) (by decide) (by rfl) ((run d l tk).trans (f0_eq d l tk))
noncomputable def sp : Sp U El := fun args k => match args with
  | [.int .i64 d, .lst .msg l, .lst .bool tk] => k (.bool (true)) []
  | _ => none
theorem spOk : SpOk Try.prog E 3 sp where
  det := fun vs => by
    unfold sp
    split
    · exact ⟨some (_, _), fun _ => rfl⟩
    · exact ⟨none, fun _ => rfl⟩
  ok := fun vs k r h => by
    unfold sp at h
    split at h
    · exact ⟨_, _, spec _ _ _, h⟩
    · cases h
end lawFeeds
end Go.Proofs.Ytkeplmpcijigaaa
