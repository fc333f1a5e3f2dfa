/- The law TelemetryShuffled. -/
import Derived.Test.YtkeplmpcijigaaaVW
namespace Go.Proofs.Ytkeplmpcijigaaa
set_option linter.unusedSectionVars false
set_option linter.unusedSimpArgs false
set_option linter.unusedVariables false
set_option maxRecDepth 100000

theorem tmod_place {x n : Int} (hx : 0 ≤ x) (hn : 0 < n) : 0 ≤ Int.tmod x n ∧ Int.tmod x n < n := ⟨Int.tmod_nonneg _ hx, Int.tmod_lt_of_pos _ hn⟩
namespace lawShuf
noncomputable def bd : Code := (Try.f7.body).getD .skip
noncomputable def X : Ctx U El := ⟨E, tds, zeros, eqs, specOf [(9, awake.sp), (16, equalM.sp), (22, cloneM.sp), (23, rvalid.sp), (24, rhas.sp), (27, sortedM.sp), (28, seriesC.sp), (29, missC.sp), (30, equalI.sp)], 100000, 245, dspecOf [], fun _ => none⟩
noncomputable def nmR : Norm U := ⟨[], [14], [], [], [], [], []⟩
noncomputable def RR : Kont U El := fun st => normK nmR st (retFin [14] [])
noncomputable def nm1 : Norm U := ⟨[], [0, 1, 2, 3, 4, 5, 6], [], [], [], [], []⟩
noncomputable def nm2 : Norm U := ⟨[(15, .msg)], [0, 2, 3, 4, 5, 6, 15], [15], [], [], [], []⟩
noncomputable def nm3 : Norm U := ⟨[(15, .msg)], [0, 2, 3, 4, 5, 6, 15, 61, 62, 63], [15], [], [], [], []⟩
noncomputable def nm4 : Norm U := ⟨[(15, .msg)], [0, 2, 3, 4, 5, 6, 15, 61, 62, 63], [15], [], [], [], []⟩
noncomputable def nm5 : Norm U := ⟨[(24, .int)], [0, 2, 3, 4, 5, 6, 24, 25], [24], [], [], [], []⟩
noncomputable def nm6 : Norm U := ⟨[(24, .int)], [0, 2, 3, 4, 5, 6, 24], [24], [], [], [], []⟩
noncomputable def fr0 (l : List Msg) (order : List UInt8) (node : List UInt8) (from_ : Int) (step : Int) (n : Int) (level : Int) : St U El := ⟨[(0, (.lst .msg l)), (1, (.lst .u8 order)), (2, (.str node)), (3, (.int .i64 from_)), (4, (.int .i64 step)), (5, (.int .i64 n)), (6, (.int .i64 level))], []⟩
noncomputable def fr1 (l0 : List Msg) (order1 : List UInt8) (node2 : List UInt8) (from3 : Int) (step4 : Int) (n5 : Int) (level6 : Int) : St U El := ⟨[(0, (.lst .msg l0)), (1, (.lst .u8 order1)), (2, (.str node2)), (3, (.int .i64 from3)), (4, (.int .i64 step4)), (5, (.int .i64 n5)), (6, (.int .i64 level6))], []⟩
noncomputable def fr2 (l0 : List Msg) (node2 : List UInt8) (from3 : Int) (step4 : Int) (n5 : Int) (level6 : Int) (m15 : List Msg) : St U El := ⟨[(0, (.lst .msg l0)), (2, (.str node2)), (3, (.int .i64 from3)), (4, (.int .i64 step4)), (5, (.int .i64 n5)), (6, (.int .i64 level6)), (15, (.ful 15))], [(15, (.rows .msg m15))]⟩
noncomputable def fr3 (l0 : List Msg) (node2 : List UInt8) (from3 : Int) (step4 : Int) (n5 : Int) (level6 : Int) (m15 : List Msg) (x61 : List UInt8) (x62 : Int) (x63 : Int) : St U El := ⟨[(0, (.lst .msg l0)), (2, (.str node2)), (3, (.int .i64 from3)), (4, (.int .i64 step4)), (5, (.int .i64 n5)), (6, (.int .i64 level6)), (15, (.ful 15)), (61, (.lst .u8 x61)), (62, (.int .i64 x62)), (63, (.int .i64 x63))], [(15, (.rows .msg m15))]⟩
noncomputable def fr4 (l0 : List Msg) (node2 : List UInt8) (from3 : Int) (step4 : Int) (n5 : Int) (level6 : Int) (m15 : List Msg) (x61 : List UInt8) (x62 : Int) (x63 : Int) : St U El := ⟨[(0, (.lst .msg l0)), (2, (.str node2)), (3, (.int .i64 from3)), (4, (.int .i64 step4)), (5, (.int .i64 n5)), (6, (.int .i64 level6)), (15, (.ful 15)), (61, (.lst .u8 x61)), (62, (.int .i64 x62)), (63, (.int .i64 x63))], [(15, (.rows .msg m15))]⟩
noncomputable def fr5 (l0 : List Msg) (node2 : List UInt8) (from3 : Int) (step4 : Int) (n5 : Int) (level6 : Int) (c24 : List Int) (g25 : Int) : St U El := ⟨[(0, (.lst .msg l0)), (2, (.str node2)), (3, (.int .i64 from3)), (4, (.int .i64 step4)), (5, (.int .i64 n5)), (6, (.int .i64 level6)), (24, (.ful 24)), (25, (.int .i64 g25))], [(24, (.rows .int c24))]⟩
noncomputable def fr6 (l0 : List Msg) (node2 : List UInt8) (from3 : Int) (step4 : Int) (n5 : Int) (level6 : Int) (c24 : List Int) : St U El := ⟨[(0, (.lst .msg l0)), (2, (.str node2)), (3, (.int .i64 from3)), (4, (.int .i64 step4)), (5, (.int .i64 n5)), (6, (.int .i64 level6)), (24, (.ful 24))], [(24, (.rows .int c24))]⟩
noncomputable def sh0 (l : List Msg) (order : List UInt8) (node : List UInt8) (from_ : Int) (step : Int) (n : Int) (level : Int) (k1 : (List Msg) → (List UInt8) → (List UInt8) → Int → Int → Int → Int → R) : R :=
  condB (!(true)) (some ((.bool false), [])) (condB (ilt (30 : Int) (Int.ofNat (List.length l))) (some ((.bool true), [])) (condB (ilt (40 : Int) (Int.ofNat (List.length order))) (some ((.bool true), [])) (condB (ilt (100 : Int) (Int.ofNat (List.length node))) (some ((.bool true), [])) (condB (ilt (40 : Int) n) (some ((.bool true), [])) (condB (!(validB l)) (some ((.bool true), [])) (k1 l order node from_ step n level))))))
noncomputable def sh1 (l0 : List Msg) (order1 : List UInt8) (node2 : List UInt8) (from3 : Int) (step4 : Int) (n5 : Int) (level6 : Int) (k3 : (List Msg) → (List UInt8) → Int → Int → Int → Int → (List Msg) → (List UInt8) → Int → Int → R) : R :=
  chk (nle (List.length l0) 100000) (k3 l0 node2 from3 step4 n5 level6 (l0) order1 (Int.ofNat (List.length order1)) (0 : Int))
noncomputable def sh2 (l0 : List Msg) (node2 : List UInt8) (from3 : Int) (step4 : Int) (n5 : Int) (level6 : Int) (m15 : List Msg) (k5 : (List Msg) → (List UInt8) → Int → Int → Int → Int → (List Int) → Int → R) : R :=
  condB (((bif validB l0 then 0 else 1)) != (0 : Int)) (some ((.bool false), [])) (condB (((bif validB m15 then 0 else 1)) != (0 : Int)) (some ((.bool false), [])) (chk (nle (List.length ((bif validB l0 then sortM l0 else []))) 90000) (condB (!(eqL ((bif validB l0 then sortM l0 else [])) ((bif validB m15 then sortM m15 else [])))) (some ((.bool false), [])) (condB ((serE l0 node2 from3 step4 n5) != (serE m15 node2 from3 step4 n5)) (some ((.bool false), [])) (chk (nle (List.length (serL l0 node2 from3 step4 n5)) 90000) (condB (!(eqI (serL l0 node2 from3 step4 n5) (serL m15 node2 from3 step4 n5))) (some ((.bool false), [])) (condB ((misE l0 node2) != (misE m15 node2)) (some ((.bool false), [])) (chk (nle (List.length (misL l0 node2)) 90000) (condB (!(eqI (misL l0 node2) (misL m15 node2))) (some ((.bool false), [])) (k5 l0 node2 from3 step4 n5 level6 (serL l0 node2 from3 step4 n5) (serE l0 node2 from3 step4 n5)))))))))))
noncomputable def sh3 (l0 : List Msg) (node2 : List UInt8) (from3 : Int) (step4 : Int) (n5 : Int) (level6 : Int) (m15 : List Msg) (x61 : List UInt8) (x62 : Int) (x63 : Int) (k2 : (List Msg) → (List UInt8) → Int → Int → Int → Int → (List Msg) → R) (k4 : (List Msg) → (List UInt8) → Int → Int → Int → Int → (List Msg) → (List UInt8) → Int → Int → R) : R :=
  condB (ilt x63 x62) (chk (inb x63 (List.length x61)) (condB (ilt (0 : Int) (Int.ofNat (List.length m15))) (chk ((Int.ofNat (List.length m15)) != 0) (chk ((Int.ofNat (List.length m15)) != 0) (chk (inb (Int.tmod (IntKind.wrap .i64 (Int.ofNat (UInt8.toNat (List.getD x61 (Int.toNat x63) d_u8)))) (Int.ofNat (List.length m15))) (List.length m15)) (chk (nlt (Int.toNat (Int.tmod (IntKind.wrap .i64 (Int.ofNat (UInt8.toNat (List.getD x61 (Int.toNat x63) d_u8)))) (Int.ofNat (List.length m15)))) (List.length m15)) (chk (inb (Int.tmod x63 (Int.ofNat (List.length m15))) (List.length m15)) (chk (nlt (Int.toNat (Int.tmod x63 (Int.ofNat (List.length m15)))) (List.length m15)) (chk (inb (Int.tmod x63 (Int.ofNat (List.length m15))) (List.length m15)) (chk (nlt (Int.toNat (Int.tmod x63 (Int.ofNat (List.length m15)))) (List.length m15) && true) (chk (inb (Int.tmod (IntKind.wrap .i64 (Int.ofNat (UInt8.toNat (List.getD x61 (Int.toNat x63) d_u8)))) (Int.ofNat (List.length m15))) (List.length (List.set m15 (Int.toNat (Int.tmod x63 (Int.ofNat (List.length m15)))) (List.getD m15 (Int.toNat (Int.tmod (IntKind.wrap .i64 (Int.ofNat (UInt8.toNat (List.getD x61 (Int.toNat x63) d_u8)))) (Int.ofNat (List.length m15)))) d_msg)))) (chk (nlt (Int.toNat (Int.tmod (IntKind.wrap .i64 (Int.ofNat (UInt8.toNat (List.getD x61 (Int.toNat x63) d_u8)))) (Int.ofNat (List.length m15)))) (List.length (List.set m15 (Int.toNat (Int.tmod x63 (Int.ofNat (List.length m15)))) (List.getD m15 (Int.toNat (Int.tmod (IntKind.wrap .i64 (Int.ofNat (UInt8.toNat (List.getD x61 (Int.toNat x63) d_u8)))) (Int.ofNat (List.length m15)))) d_msg))) && true) (k4 l0 node2 from3 step4 n5 level6 (List.set (List.set m15 (Int.toNat (Int.tmod x63 (Int.ofNat (List.length m15)))) (List.getD m15 (Int.toNat (Int.tmod (IntKind.wrap .i64 (Int.ofNat (UInt8.toNat (List.getD x61 (Int.toNat x63) d_u8)))) (Int.ofNat (List.length m15)))) d_msg)) (Int.toNat (Int.tmod (IntKind.wrap .i64 (Int.ofNat (UInt8.toNat (List.getD x61 (Int.toNat x63) d_u8)))) (Int.ofNat (List.length m15)))) (List.getD m15 (Int.toNat (Int.tmod x63 (Int.ofNat (List.length m15)))) d_msg)) x61 x62 x63))))))))))) (k4 l0 node2 from3 step4 n5 level6 m15 x61 x62 x63))) (k2 l0 node2 from3 step4 n5 level6 m15)
noncomputable def sh4 (l0 : List Msg) (node2 : List UInt8) (from3 : Int) (step4 : Int) (n5 : Int) (level6 : Int) (m15 : List Msg) (x61 : List UInt8) (x62 : Int) (x63 : Int) (k3 : (List Msg) → (List UInt8) → Int → Int → Int → Int → (List Msg) → (List UInt8) → Int → Int → R) : R :=
  k3 l0 node2 from3 step4 n5 level6 m15 x61 x62 (IntKind.wrap .i64 (x63 + (1 : Int)))
noncomputable def sh5 (l0 : List Msg) (node2 : List UInt8) (from3 : Int) (step4 : Int) (n5 : Int) (level6 : Int) (c24 : List Int) (g25 : Int) (k6 : (List Msg) → (List UInt8) → Int → Int → Int → Int → (List Int) → R) : R :=
  condB (g25 != (0 : Int)) (some ((.bool true), [])) (condB ((Int.ofNat (List.length c24)) != n5) (some ((.bool true), [])) (condB (n5 == (0 : Int)) (some ((.bool true), [])) (condB (ilt level6 (-4194304 : Int)) (some ((.bool true), [])) (condB (ilt (4194304 : Int) level6) (some ((.bool true), [])) (chk (nle (List.length l0) 90000) (condB (hasB l0 node2 (1073741824 : Int)) (some ((.bool true), [])) (k6 l0 node2 from3 step4 n5 level6 c24)))))))
noncomputable def sh6 (l0 : List Msg) (node2 : List UInt8) (from3 : Int) (step4 : Int) (n5 : Int) (level6 : Int) (c24 : List Int) : R :=
  chk (nle (List.length l0) 100000) (chk (nle ((List.length (l0) + List.length ([(⟨node2, (1073741824 : Int), (IntKind.wrap .i64 (from3 + (IntKind.wrap .i64 ((IntKind.wrap .i64 (n5 - (1 : Int))) * step4)))), (IntKind.wrap .i64 (from3 + (IntKind.wrap .i64 ((IntKind.wrap .i64 (n5 - (1 : Int))) * step4)))), level6⟩ : Msg)] : List Msg)) * 48) 140737488355328 && nle (List.length (l0) + List.length ([(⟨node2, (1073741824 : Int), (IntKind.wrap .i64 (from3 + (IntKind.wrap .i64 ((IntKind.wrap .i64 (n5 - (1 : Int))) * step4)))), (IntKind.wrap .i64 (from3 + (IntKind.wrap .i64 ((IntKind.wrap .i64 (n5 - (1 : Int))) * step4)))), level6⟩ : Msg)] : List Msg)) 9223372036854775807) (condB ((serE ((l0) ++ ([(⟨node2, (1073741824 : Int), (IntKind.wrap .i64 (from3 + (IntKind.wrap .i64 ((IntKind.wrap .i64 (n5 - (1 : Int))) * step4)))), (IntKind.wrap .i64 (from3 + (IntKind.wrap .i64 ((IntKind.wrap .i64 (n5 - (1 : Int))) * step4)))), level6⟩ : Msg)] : List Msg)) node2 from3 step4 n5) == (0 : Int)) (condB ((Int.ofNat (List.length (serL ((l0) ++ ([(⟨node2, (1073741824 : Int), (IntKind.wrap .i64 (from3 + (IntKind.wrap .i64 ((IntKind.wrap .i64 (n5 - (1 : Int))) * step4)))), (IntKind.wrap .i64 (from3 + (IntKind.wrap .i64 ((IntKind.wrap .i64 (n5 - (1 : Int))) * step4)))), level6⟩ : Msg)] : List Msg)) node2 from3 step4 n5))) == n5) (chk (ile 0 (0 : Int) && ile (0 : Int) (IntKind.wrap .i64 (n5 - (1 : Int))) && ile (IntKind.wrap .i64 (n5 - (1 : Int))) (Int.ofNat (List.length (serL ((l0) ++ ([(⟨node2, (1073741824 : Int), (IntKind.wrap .i64 (from3 + (IntKind.wrap .i64 ((IntKind.wrap .i64 (n5 - (1 : Int))) * step4)))), (IntKind.wrap .i64 (from3 + (IntKind.wrap .i64 ((IntKind.wrap .i64 (n5 - (1 : Int))) * step4)))), level6⟩ : Msg)] : List Msg)) node2 from3 step4 n5)))) (chk (ile 0 (0 : Int) && ile (0 : Int) (IntKind.wrap .i64 (n5 - (1 : Int))) && ile (IntKind.wrap .i64 (n5 - (1 : Int))) (Int.ofNat (List.length c24))) (chk (nle (List.length (List.take (Int.toNat (IntKind.wrap .i64 (n5 - (1 : Int))) - 0) (List.drop 0 (serL ((l0) ++ ([(⟨node2, (1073741824 : Int), (IntKind.wrap .i64 (from3 + (IntKind.wrap .i64 ((IntKind.wrap .i64 (n5 - (1 : Int))) * step4)))), (IntKind.wrap .i64 (from3 + (IntKind.wrap .i64 ((IntKind.wrap .i64 (n5 - (1 : Int))) * step4)))), level6⟩ : Msg)] : List Msg)) node2 from3 step4 n5)))) 90000) (condB (eqI (List.take (Int.toNat (IntKind.wrap .i64 (n5 - (1 : Int))) - 0) (List.drop 0 (serL ((l0) ++ ([(⟨node2, (1073741824 : Int), (IntKind.wrap .i64 (from3 + (IntKind.wrap .i64 ((IntKind.wrap .i64 (n5 - (1 : Int))) * step4)))), (IntKind.wrap .i64 (from3 + (IntKind.wrap .i64 ((IntKind.wrap .i64 (n5 - (1 : Int))) * step4)))), level6⟩ : Msg)] : List Msg)) node2 from3 step4 n5))) (List.take (Int.toNat (IntKind.wrap .i64 (n5 - (1 : Int))) - 0) (List.drop 0 c24))) (chk (inb (IntKind.wrap .i64 (n5 - (1 : Int))) (List.length (serL ((l0) ++ ([(⟨node2, (1073741824 : Int), (IntKind.wrap .i64 (from3 + (IntKind.wrap .i64 ((IntKind.wrap .i64 (n5 - (1 : Int))) * step4)))), (IntKind.wrap .i64 (from3 + (IntKind.wrap .i64 ((IntKind.wrap .i64 (n5 - (1 : Int))) * step4)))), level6⟩ : Msg)] : List Msg)) node2 from3 step4 n5))) (chk (nlt (Int.toNat (IntKind.wrap .i64 (n5 - (1 : Int)))) (List.length (serL ((l0) ++ ([(⟨node2, (1073741824 : Int), (IntKind.wrap .i64 (from3 + (IntKind.wrap .i64 ((IntKind.wrap .i64 (n5 - (1 : Int))) * step4)))), (IntKind.wrap .i64 (from3 + (IntKind.wrap .i64 ((IntKind.wrap .i64 (n5 - (1 : Int))) * step4)))), level6⟩ : Msg)] : List Msg)) node2 from3 step4 n5))) (some ((.bool ((List.getD (serL ((l0) ++ ([(⟨node2, (1073741824 : Int), (IntKind.wrap .i64 (from3 + (IntKind.wrap .i64 ((IntKind.wrap .i64 (n5 - (1 : Int))) * step4)))), (IntKind.wrap .i64 (from3 + (IntKind.wrap .i64 ((IntKind.wrap .i64 (n5 - (1 : Int))) * step4)))), level6⟩ : Msg)] : List Msg)) node2 from3 step4 n5) (Int.toNat (IntKind.wrap .i64 (n5 - (1 : Int)))) d_int) == level6)), [])))) (some ((.bool false), [])))))) (some ((.bool false), []))) (some ((.bool false), []))))
noncomputable def it3 (Kb2 : Kont U El) (n : Nat) : Kont U El := iter nm3 (fun st' K' => exec X (cdp [1, 1, 1, 1, 0, 1, 0, 0] bd) (.seq none .d (.seq none .d (.seq (some nm4) (.block (.seq none .d (.seq none .d (.cond (.seq none .d (.region [(13, 15), (15, 15)])) .d)))) .d))) st' K' (Eblk 0 (cutK nm2 Kb2) (fun _ _ => none)) RR) n
noncomputable def ct1 : Kont U El := fun st => exec X (cdp [1, 1, 1] bd) (.seq none .d (.seq (some nm2) (.seq none .d (.block (.loop nm3 (.seq none .d (.seq none .d (.seq (some nm4) (.block (.seq none .d (.seq none .d (.cond (.seq none .d (.region [(13, 15), (15, 15)])) .d)))) .d)))))) (.seq none .d (.seq none .d (.seq none .d (.seq none .d (.seq none .d (.seq none .d (.seq (some nm5) .d (.seq (some nm6) .d .d)))))))))) st RR (fun _ _ => none) RR
noncomputable def ct2 : Kont U El := fun st => exec X (cdp [1, 1, 1, 1, 1] bd) (.seq none .d (.seq none .d (.seq none .d (.seq none .d (.seq none .d (.seq none .d (.seq (some nm5) .d (.seq (some nm6) .d .d)))))))) st RR (fun _ _ => none) RR
noncomputable def ct4 (Kb2 : Kont U El) (Kb3 : Kont U El) : Kont U El := fun st => exec X (cdp [1, 1, 1, 1, 0, 1, 0, 0, 1, 1, 1] bd) .d st (cutK nm3 Kb3) (Eblk 0 (cutK nm2 Kb2) (fun _ _ => none)) RR
noncomputable def ct5 : Kont U El := fun st => exec X (cdp [1, 1, 1, 1, 1, 1, 1, 1, 1, 1, 1, 1] bd) (.seq (some nm6) .d .d) st RR (fun _ _ => none) RR
noncomputable def ct6 : Kont U El := fun st => exec X (cdp [1, 1, 1, 1, 1, 1, 1, 1, 1, 1, 1, 1, 1] bd) .d st RR (fun _ _ => none) RR
theorem P0 (l : List Msg) (order : List UInt8) (node : List UInt8) (from_ : Int) (step : Int) (n : Int) (level : Int) : exec X (cdp [] bd) (.seq none .d (.seq none .d (.seq (some nm1) .d (.seq none .d (.seq (some nm2) (.seq none .d (.block (.loop nm3 (.seq none .d (.seq none .d (.seq (some nm4) (.block (.seq none .d (.seq none .d (.cond (.seq none .d (.region [(13, 15), (15, 15)])) .d)))) .d)))))) (.seq none .d (.seq none .d (.seq none .d (.seq none .d (.seq none .d (.seq none .d (.seq (some nm5) .d (.seq (some nm6) .d .d))))))))))))) (fr0 l order node from_ step n level) RR (fun _ _ => none) RR = sh0 l order node from_ step n level (fun y0 y1 y2 y3 y4 y5 y6 => (hid ct1) (fr1 y0 y1 y2 y3 y4 y5 y6)) := by kernel_rfl
theorem P1 (l0 : List Msg) (order1 : List UInt8) (node2 : List UInt8) (from3 : Int) (step4 : Int) (n5 : Int) (level6 : Int) : exec X (cdp [1, 1, 1] bd) (.seq none .d (.seq (some nm2) (.seq none .d (.block (.loop nm3 (.seq none .d (.seq none .d (.seq (some nm4) (.block (.seq none .d (.seq none .d (.cond (.seq none .d (.region [(13, 15), (15, 15)])) .d)))) .d)))))) (.seq none .d (.seq none .d (.seq none .d (.seq none .d (.seq none .d (.seq none .d (.seq (some nm5) .d (.seq (some nm6) .d .d)))))))))) (fr1 l0 order1 node2 from3 step4 n5 level6) RR (fun _ _ => none) RR = sh1 l0 order1 node2 from3 step4 n5 level6 (fun y0 y1 y2 y3 y4 y5 y6 y7 y8 y9 => (hid (it3 (hid ct2) 100000)) (fr3 y0 y1 y2 y3 y4 y5 y6 y7 y8 y9)) := by kernel_rfl
theorem P2 (l0 : List Msg) (node2 : List UInt8) (from3 : Int) (step4 : Int) (n5 : Int) (level6 : Int) (m15 : List Msg) : exec X (cdp [1, 1, 1, 1, 1] bd) (.seq none .d (.seq none .d (.seq none .d (.seq none .d (.seq none .d (.seq none .d (.seq (some nm5) .d (.seq (some nm6) .d .d)))))))) (fr2 l0 node2 from3 step4 n5 level6 m15) RR (fun _ _ => none) RR = sh2 l0 node2 from3 step4 n5 level6 m15 (fun y0 y1 y2 y3 y4 y5 y6 y7 => (hid ct5) (fr5 y0 y1 y2 y3 y4 y5 y6 y7)) := by kernel_rfl
theorem P3 (l0 : List Msg) (node2 : List UInt8) (from3 : Int) (step4 : Int) (n5 : Int) (level6 : Int) (m15 : List Msg) (x61 : List UInt8) (x62 : Int) (x63 : Int) (Kb2 : Kont U El) (Kb3 : Kont U El) : exec X (cdp [1, 1, 1, 1, 0, 1, 0, 0] bd) (.seq none .d (.seq none .d (.seq (some nm4) (.block (.seq none .d (.seq none .d (.cond (.seq none .d (.region [(13, 15), (15, 15)])) .d)))) .d))) (fr3 l0 node2 from3 step4 n5 level6 m15 x61 x62 x63) (cutK nm3 Kb3) (Eblk 0 (cutK nm2 Kb2) (fun _ _ => none)) RR = sh3 l0 node2 from3 step4 n5 level6 m15 x61 x62 x63 (fun y0 y1 y2 y3 y4 y5 y6 => Kb2 (fr2 y0 y1 y2 y3 y4 y5 y6)) (fun y0 y1 y2 y3 y4 y5 y6 y7 y8 y9 => (hid (ct4 Kb2 Kb3)) (fr4 y0 y1 y2 y3 y4 y5 y6 y7 y8 y9)) := by kernel_rfl
theorem P4 (l0 : List Msg) (node2 : List UInt8) (from3 : Int) (step4 : Int) (n5 : Int) (level6 : Int) (m15 : List Msg) (x61 : List UInt8) (x62 : Int) (x63 : Int) (Kb2 : Kont U El) (Kb3 : Kont U El) : exec X (cdp [1, 1, 1, 1, 0, 1, 0, 0, 1, 1, 1] bd) .d (fr4 l0 node2 from3 step4 n5 level6 m15 x61 x62 x63) (cutK nm3 Kb3) (Eblk 0 (cutK nm2 Kb2) (fun _ _ => none)) RR = sh4 l0 node2 from3 step4 n5 level6 m15 x61 x62 x63 (fun y0 y1 y2 y3 y4 y5 y6 y7 y8 y9 => Kb3 (fr3 y0 y1 y2 y3 y4 y5 y6 y7 y8 y9)) := by kernel_rfl
theorem P5 (l0 : List Msg) (node2 : List UInt8) (from3 : Int) (step4 : Int) (n5 : Int) (level6 : Int) (c24 : List Int) (g25 : Int) : exec X (cdp [1, 1, 1, 1, 1, 1, 1, 1, 1, 1, 1, 1] bd) (.seq (some nm6) .d .d) (fr5 l0 node2 from3 step4 n5 level6 c24 g25) RR (fun _ _ => none) RR = sh5 l0 node2 from3 step4 n5 level6 c24 g25 (fun y0 y1 y2 y3 y4 y5 y6 => (hid ct6) (fr6 y0 y1 y2 y3 y4 y5 y6)) := by kernel_rfl
theorem P6 (l0 : List Msg) (node2 : List UInt8) (from3 : Int) (step4 : Int) (n5 : Int) (level6 : Int) (c24 : List Int) : exec X (cdp [1, 1, 1, 1, 1, 1, 1, 1, 1, 1, 1, 1, 1] bd) .d (fr6 l0 node2 from3 step4 n5 level6 c24) RR (fun _ _ => none) RR = sh6 l0 node2 from3 step4 n5 level6 c24 := by kernel_rfl
noncomputable def f6 (l0 : List Msg) (node2 : List UInt8) (from3 : Int) (step4 : Int) (n5 : Int) (level6 : Int) (c24 : List Int) : R := sh6 l0 node2 from3 step4 n5 level6 c24
noncomputable def f5 (l0 : List Msg) (node2 : List UInt8) (from3 : Int) (step4 : Int) (n5 : Int) (level6 : Int) (c24 : List Int) (g25 : Int) : R := sh5 l0 node2 from3 step4 n5 level6 c24 g25 f6
noncomputable def f2 (l0 : List Msg) (node2 : List UInt8) (from3 : Int) (step4 : Int) (n5 : Int) (level6 : Int) (m15 : List Msg) : R := sh2 l0 node2 from3 step4 n5 level6 m15 f5
noncomputable def f4 (k3 : (List Msg) → (List UInt8) → Int → Int → Int → Int → (List Msg) → (List UInt8) → Int → Int → R) (l0 : List Msg) (node2 : List UInt8) (from3 : Int) (step4 : Int) (n5 : Int) (level6 : Int) (m15 : List Msg) (x61 : List UInt8) (x62 : Int) (x63 : Int) : R := sh4 l0 node2 from3 step4 n5 level6 m15 x61 x62 x63 k3
noncomputable def f3 : Nat → (List Msg) → (List UInt8) → Int → Int → Int → Int → (List Msg) → (List UInt8) → Int → Int → R
  | 0 => fun _ _ _ _ _ _ _ _ _ _ => none
  | n + 1 => fun l0 node2 from3 step4 n5 level6 m15 x61 x62 x63 => sh3 l0 node2 from3 step4 n5 level6 m15 x61 x62 x63 f2 (f4 (f3 n))
noncomputable def f1 (l0 : List Msg) (order1 : List UInt8) (node2 : List UInt8) (from3 : Int) (step4 : Int) (n5 : Int) (level6 : Int) : R := sh1 l0 order1 node2 from3 step4 n5 level6 (f3 100000)
noncomputable def f0 (l : List Msg) (order : List UInt8) (node : List UInt8) (from_ : Int) (step : Int) (n : Int) (level : Int) : R := sh0 l order node from_ step n level f1
theorem T6 (l0 : List Msg) (node2 : List UInt8) (from3 : Int) (step4 : Int) (n5 : Int) (level6 : Int) (c24 : List Int) : (hid ct6) (fr6 l0 node2 from3 step4 n5 level6 c24) = f6 l0 node2 from3 step4 n5 level6 c24 := by
  refine (congrFun (hid_eq _) _).trans <| (P6 l0 node2 from3 step4 n5 level6 c24).trans ?_
  show _ = sh6 l0 node2 from3 step4 n5 level6 c24
  rfl
theorem T5 (l0 : List Msg) (node2 : List UInt8) (from3 : Int) (step4 : Int) (n5 : Int) (level6 : Int) (c24 : List Int) (g25 : Int) : (hid ct5) (fr5 l0 node2 from3 step4 n5 level6 c24 g25) = f5 l0 node2 from3 step4 n5 level6 c24 g25 := by
  refine (congrFun (hid_eq _) _).trans <| (P5 l0 node2 from3 step4 n5 level6 c24 g25).trans ?_
  show _ = sh5 l0 node2 from3 step4 n5 level6 c24 g25 f6
  simp only [T6]
theorem T2 (l0 : List Msg) (node2 : List UInt8) (from3 : Int) (step4 : Int) (n5 : Int) (level6 : Int) (m15 : List Msg) : (hid ct2) (fr2 l0 node2 from3 step4 n5 level6 m15) = f2 l0 node2 from3 step4 n5 level6 m15 := by
  refine (congrFun (hid_eq _) _).trans <| (P2 l0 node2 from3 step4 n5 level6 m15).trans ?_
  show _ = sh2 l0 node2 from3 step4 n5 level6 m15 f5
  simp only [T5]
theorem T4 (KL3 : Kont U El) (k3 : (List Msg) → (List UInt8) → Int → Int → Int → Int → (List Msg) → (List UInt8) → Int → Int → R) (h3 : ∀ l0 node2 from3 step4 n5 level6 m15 x61 x62 x63, KL3 (fr3 l0 node2 from3 step4 n5 level6 m15 x61 x62 x63) = k3 l0 node2 from3 step4 n5 level6 m15 x61 x62 x63) (l0 : List Msg) (node2 : List UInt8) (from3 : Int) (step4 : Int) (n5 : Int) (level6 : Int) (m15 : List Msg) (x61 : List UInt8) (x62 : Int) (x63 : Int) : (hid (ct4 (hid ct2) KL3)) (fr4 l0 node2 from3 step4 n5 level6 m15 x61 x62 x63) = f4 k3 l0 node2 from3 step4 n5 level6 m15 x61 x62 x63 := by
  refine (congrFun (hid_eq _) _).trans <| (P4 l0 node2 from3 step4 n5 level6 m15 x61 x62 x63 (hid ct2) KL3).trans ?_
  show _ = sh4 l0 node2 from3 step4 n5 level6 m15 x61 x62 x63 k3
  simp only [h3]
theorem T3 : ∀ (n : Nat), ∀ l0 node2 from3 step4 n5 level6 m15 x61 x62 x63, it3 (hid ct2) n (fr3 l0 node2 from3 step4 n5 level6 m15 x61 x62 x63) = f3 n l0 node2 from3 step4 n5 level6 m15 x61 x62 x63 := by
  intro n
  induction n with
  | zero => intros; rfl
  | succ n ih =>
    intro l0 node2 from3 step4 n5 level6 m15 x61 x62 x63
    refine (P3 l0 node2 from3 step4 n5 level6 m15 x61 x62 x63 (hid ct2) (it3 (hid ct2) n)).trans ?_
    show _ = sh3 l0 node2 from3 step4 n5 level6 m15 x61 x62 x63 f2 (f4 (f3 n))
    simp only [T2, T4 (it3 (hid ct2) n) (f3 n) ih]
theorem H3 (l0 : List Msg) (node2 : List UInt8) (from3 : Int) (step4 : Int) (n5 : Int) (level6 : Int) (m15 : List Msg) (x61 : List UInt8) (x62 : Int) (x63 : Int) : hid (it3 (hid ct2) 100000) (fr3 l0 node2 from3 step4 n5 level6 m15 x61 x62 x63) = f3 100000 l0 node2 from3 step4 n5 level6 m15 x61 x62 x63 := (congrFun (hid_eq _) _).trans (T3 100000 l0 node2 from3 step4 n5 level6 m15 x61 x62 x63)
theorem T1 (l0 : List Msg) (order1 : List UInt8) (node2 : List UInt8) (from3 : Int) (step4 : Int) (n5 : Int) (level6 : Int) : (hid ct1) (fr1 l0 order1 node2 from3 step4 n5 level6) = f1 l0 order1 node2 from3 step4 n5 level6 := by
  refine (congrFun (hid_eq _) _).trans <| (P1 l0 order1 node2 from3 step4 n5 level6).trans ?_
  show _ = sh1 l0 order1 node2 from3 step4 n5 level6 (f3 100000)
  simp only [H3]
theorem T0 (l : List Msg) (order : List UInt8) (node : List UInt8) (from_ : Int) (step : Int) (n : Int) (level : Int) : exec X bd (.seq none .d (.seq none .d (.seq (some nm1) .d (.seq none .d (.seq (some nm2) (.seq none .d (.block (.loop nm3 (.seq none .d (.seq none .d (.seq (some nm4) (.block (.seq none .d (.seq none .d (.cond (.seq none .d (.region [(13, 15), (15, 15)])) .d)))) .d)))))) (.seq none .d (.seq none .d (.seq none .d (.seq none .d (.seq none .d (.seq none .d (.seq (some nm5) .d (.seq (some nm6) .d .d))))))))))))) (fr0 l order node from_ step n level) RR (fun _ _ => none) RR = f0 l order node from_ step n level := by
  refine (P0 l order node from_ step n level).trans ?_
  show _ = sh0 l order node from_ step n level f1
  simp only [T1]
theorem run (l : List Msg) (order : List UInt8) (node : List UInt8) (from_ : Int) (step : Int) (n : Int) (level : Int) : runFn X bd (.seq none .d (.seq none .d (.seq (some nm1) .d (.seq none .d (.seq (some nm2) (.seq none .d (.block (.loop nm3 (.seq none .d (.seq none .d (.seq (some nm4) (.block (.seq none .d (.seq none .d (.cond (.seq none .d (.region [(13, 15), (15, 15)])) .d)))) .d)))))) (.seq none .d (.seq none .d (.seq none .d (.seq none .d (.seq none .d (.seq none .d (.seq (some nm5) .d (.seq (some nm6) .d .d))))))))))))) nmR [14] [] [(.lst .msg l), (.lst .u8 order), (.str node), (.int .i64 from_), (.int .i64 step), (.int .i64 n), (.int .i64 level)] = f0 l order node from_ step n level := T0 l order node from_ step n level
/-- one message more, at the last instant -/
theorem fin (l : List Msg) (hl : l.length ≤ 30) (hv : validB l = true) (node : List UInt8) (from_ step n level : Int) (he : serE l node from_ step n = 0) (hn : 0 < n) (h1 : -4194304 ≤ level) (h2 : level ≤ 4194304) (hh : hasB l node 1073741824 = false) :
    f6 l node from_ step n level (serL l node from_ step n) = outB true := by
  unfold serE at he
  cases hvn : validB l && nameB node
  · rw [hvn] at he; cases he
  rw [hvn] at he
  simp only [Bool.not_true, cond_false] at he
  cases hc : (ile 1 step && ile step 86400) && ((ile 0 n && ile n 10000) && (timeB from_ && timeB (from_ + n * step)))
  · rw [hc] at he; cases he
  have hc0 := hc
  simp only [Bool.and_eq_true] at hc hvn
  have s1 := ileI hc.1.1
  have s2 := ileI hc.1.2
  have n1 := ileI hc.2.1.1
  have n2 := ileI hc.2.1.2
  have hf := hc.2.2.1
  have ht := hc.2.2.2
  obtain ⟨N, rfl⟩ : ∃ N : Nat, n = ((N + 1 : Nat) : Int) := ⟨(n - 1).toNat, by omega⟩
  have hN : N + 1 ≤ 10000 := by omega
  have hw : IntKind.wrap .i64 (((N + 1 : Nat) : Int) - 1) = (N : Int) := by rw [wrapI (by omega) (by omega)]; omega
  have htw := time_wrap (i := N) (n := 10000) hf s1 s2 (by omega) (Int.le_refl _)
  obtain ⟨t, et⟩ : ∃ t, t = from_ + (N : Int) * step := ⟨_, rfl⟩
  obtain ⟨m, em⟩ : ∃ m : Msg, m = ⟨node, 1073741824, t, t, level⟩ := ⟨_, rfl⟩
  have hs0 : (0 : Int) ≤ (N : Int) * step := Int.mul_nonneg (by omega) (by omega)
  have hs1 : (((N + 1 : Nat) : Int)) * step = (N : Int) * step + step := by rw [Int.natCast_add, Int.add_mul]; simp
  have htt : timeB t = true := by
    simp only [timeB, Bool.and_eq_true] at hf ht ⊢
    have a1 := ileI hf.1
    have a2 := ileI ht.2
    exact ⟨ileT (by omega), ileT (by omega)⟩
  have hvl := hv
  unfold validB at hvl
  rw [Bool.and_eq_true] at hvl
  obtain ⟨v1, v2, v3⟩ := (validL_iff l []).1 hvl.2
  have hv' : validB (l ++ [m]) = true := by
    unfold validB
    rw [Bool.and_eq_true]
    refine ⟨ileT (by simp; omega), (validL_iff _ []).2 ⟨fun y hy => ?_, fun y hy => rfl, List.pairwise_append.2 ⟨v3, List.pairwise_singleton _ _, fun a ha b hb e => ?_⟩⟩⟩
    · rcases List.mem_append.1 hy with hy | hy
      · exact v1 y hy
      · rw [List.mem_singleton] at hy
        rw [hy, em]
        unfold rightB
        simp only [hvn.2, htt, Bool.true_and]
        rw [ileT (show (0 : Int) ≤ 1073741824 by decide), ileT (show (1073741824 : Int) ≤ 1073741824 by decide), ileT (Int.le_refl t), ileT h1, ileT h2]
        rfl
    · rw [List.mem_singleton] at hb
      rw [hb, em] at e
      have : hasB l node 1073741824 = true := List.any_eq_true.2 ⟨a, ha, by simp [e.1, e.2]⟩
      rw [hh] at this; cases this
  obtain ⟨k1, k2⟩ := valid_keys hv'
  have hof : ofL (l ++ [m]) node = withL m (ofL l node) := ofL_snoc k1 (by rw [em])
  have eE : serE (l ++ [m]) node from_ step ((N + 1 : Nat) : Int) = 0 := by
    unfold serE
    rw [hv', hvn.2, hc0]
    rfl
  have eE0 : serE l node from_ step ((N + 1 : Nat) : Int) = 0 := by
    unfold serE
    rw [hv, hvn.2, hc0]
    rfl
  have eL : serL (l ++ [m]) node from_ step ((N + 1 : Nat) : Int) = levels (withL m (ofL l node)) from_ step 0 (N + 1) := by unfold serL; rw [eE, hof]; rfl
  have eL0 : serL l node from_ step ((N + 1 : Nat) : Int) = levels (ofL l node) from_ step 0 (N + 1) := by unfold serL; rw [eE0]; rfl
  have split : ∀ ss, levels ss from_ step 0 (N + 1) = levels ss from_ step 0 N ++ [lvOf ss (cntZ t ss)] := fun ss => by
    unfold levels
    rw [List.range'_concat, List.map_append, et]
    simp
  have hfst : levels (withL m (ofL l node)) from_ step 0 N = levels (ofL l node) from_ step 0 N := by
    unfold levels
    refine List.map_congr_left fun k hk => ?_
    have hkN : k < N := by simpa using hk
    rw [lvOf_eq, lvOf_eq]
    refine lvT_before ?_ _ _
    rw [em]
    show from_ + (k : Int) * step < t
    have : (k : Int) * step + step ≤ (N : Int) * step := by
      have := Int.mul_le_mul_of_nonneg_right (show ((k : Int) + 1) ≤ (N : Int) by omega) (show (0 : Int) ≤ step by omega)
      rw [Int.add_mul, Int.one_mul] at this
      exact this
    omega
  have hlast : lvOf (withL m (ofL l node)) (cntZ t (withL m (ofL l node))) = level := by
    rw [lvOf_eq, lvT_at (by rw [em]) (ofL l node) _ fun x hx hxt => ?_, em]
    have hx1 : x ∈ l ∧ x.nd = node := by
      unfold ofL at hx
      have := List.mem_filter.1 hx
      exact ⟨(sortM_perm l).mem_iff.1 this.1, by simpa using this.2⟩
    have hr := v1 x hx1.1
    simp only [rightB, Bool.and_eq_true] at hr
    have hno := ileI hr.2.1.2
    have hne : x.no ≠ 1073741824 := fun e => by
      have : hasB l node 1073741824 = true := List.any_eq_true.2 ⟨x, hx1.1, by simp [hx1.2, e]⟩
      rw [hh] at this; cases this
    rw [em, before_iff]
    by_cases hlt : x.at_ < t
    · exact .inl hlt
    · exact .inr ⟨by show x.at_ = t; omega, .inr ⟨hx1.2, by show x.no < 1073741824; omega⟩⟩
  have hlen : ∀ ss, (levels ss from_ step 0 N).length = N := fun ss => by unfold levels; simp
  show sh6 l node from_ step ((N + 1 : Nat) : Int) level (serL l node from_ step ((N + 1 : Nat) : Int)) = _
  unfold sh6
  rw [hw, htw, ← et, ← em, eE, eL, eL0, split, split, hfst, hlast]
  have hcl : ∀ x : Int, (levels (ofL l node) from_ step 0 N ++ [x]).length = N + 1 := fun x => by rw [List.length_append, hlen]; rfl
  have htk : ∀ x : Int, List.take ((N : Int).toNat - 0) (List.drop 0 (levels (ofL l node) from_ step 0 N ++ [x])) = levels (ofL l node) from_ step 0 N := fun x => by
    rw [List.drop_zero, Nat.sub_zero, toNat_nat, List.take_left' (hlen _)]
  rw [htk, htk, hcl, hcl, nleT (show l.length ≤ 100000 by omega), capT (by omega) (by simp), hlen, nleT (show N ≤ 90000 by omega), eqI_self, ileT (Int.le_refl 0), ileT (show (0 : Int) ≤ (N : Int) by omega), ileT (show (N : Int) ≤ Int.ofNat (N + 1) by simp; omega), inbT (show N < N + 1 by omega), toNat_nat, nltT (show N < N + 1 by omega)]
  rw [show List.getD (levels (ofL l node) from_ step 0 N ++ [level]) N d_int = level by
    rw [getD_lt (show N < (levels (ofL l node) from_ step 0 N ++ [level]).length by rw [hcl]; omega), List.getElem_append_right (by rw [hlen]; omega)]
    simp]
  rw [show (Int.ofNat (N + 1) == (((N + 1 : Nat)) : Int)) = true from beq_self_eq_true _]
  simp only [condT, chkT, Bool.and_self]
  rw [beq_self_eq_true]
  show (some (.bool (level == level), []) : R) = _
  rw [show (level == level) = true from beq_self_eq_true _]
  rfl
theorem rest (l m : List Msg) (hp : l.Perm m) (hl : l.length ≤ 30) (hv : validB l = true) (node : List UInt8) (from_ step n level : Int) : f2 l node from_ step n level m = outB true := by
  obtain ⟨e1, e2, e3, e4⟩ := same_perm hp hv node from_ step n
  show sh2 l node from_ step n level m f5 = _
  unfold sh2
  rw [validB_perm hp, hv, sortM_permut hp (valid_keys hv).1, e1, e2, e3, e4]
  have hs : (sortM l).length = l.length := (sortM_perm l).length_eq
  rw [show (bif true then sortM l else ([] : List Msg)) = sortM l from rfl, nleT (show (sortM l).length ≤ 90000 by omega), eqL_self, nleT (serL_short l node from_ step n), eqI_self, nleT (misL_short l node), eqI_self, show (serE l node from_ step n != serE l node from_ step n) = false by simp, show (misE l node != misE l node) = false by simp]
  show sh5 l node from_ step n level (serL l node from_ step n) (serE l node from_ step n) f6 = _
  unfold sh5
  cases he : serE l node from_ step n != 0
  rotate_left
  · rfl
  have he' : serE l node from_ step n = 0 := by simpa using he
  cases hc : Int.ofNat (serL l node from_ step n).length != n
  rotate_left
  · rfl
  have hc' : Int.ofNat (serL l node from_ step n).length = n := by simpa using hc
  cases hz : n == 0
  rotate_left
  · rfl
  have hz' : n ≠ 0 := by simpa using hz
  by_cases h1 : level < -4194304
  · rw [iltT h1]; rfl
  rw [iltF h1]
  by_cases h2 : 4194304 < level
  · rw [iltT h2]; rfl
  rw [iltF h2, nleT (show l.length ≤ 90000 by omega)]
  cases hh : hasB l node 1073741824
  rotate_left
  · rfl
  have hn0 : (0 : Int) ≤ n := by rw [← hc']; exact Int.natCast_nonneg _
  exact fin l hl hv node from_ step n level he' (by omega) (by omega) (by omega) hh
theorem loop (l : List Msg) (hl : l.length ≤ 30) (hv : validB l = true) (node : List UInt8) (from_ step n level : Int) (o : List UInt8) (ho : o.length ≤ 40) : ∀ (k i : Nat) (m : List Msg), o.length < k + i → i ≤ o.length → l.Perm m → f3 k l node from_ step n level m o (Int.ofNat o.length) (i : Int) = outB true := by
  intro k
  induction k with
  | zero => intro i m h1 h2; omega
  | succ k ih =>
    intro i m h1 h2 hp
    show sh3 l node from_ step n level m o (Int.ofNat o.length) (i : Int) f2 (f4 (f3 k)) = _
    unfold sh3
    by_cases hi : i < o.length
    · have nxt : ∀ m', l.Perm m' → f4 (f3 k) l node from_ step n level m' o (Int.ofNat o.length) (i : Int) = outB true := fun m' hp' => by
        show f3 k l node from_ step n level m' o (Int.ofNat o.length) (IntKind.wrap .i64 ((i : Int) + 1)) = _
        rw [wrapS i (by omega)]
        exact ih (i + 1) m' (by omega) hi hp'
      rw [iltT (show (i : Int) < Int.ofNat o.length by simp; omega), inbT hi, toNat_nat, getD_lt hi]
      simp only [condT, chkT]
      by_cases hm : 0 < m.length
      · have hmi : (0 : Int) < Int.ofNat m.length := Int.ofNat_lt.2 hm
        have hb : (o[i]).toNat < 256 := o[i].toNat_lt
        rw [iltT hmi, wrapI (x := Int.ofNat (o[i]).toNat) (by have := Int.natCast_nonneg (o[i]).toNat; show (-9223372036854775808 : Int) ≤ (((o[i]).toNat : Nat) : Int); omega) (by show (((o[i]).toNat : Nat) : Int) ≤ 9223372036854775807; omega)]
        obtain ⟨a1, a2⟩ := tmod_place (x := (i : Int)) (by omega) hmi
        obtain ⟨b1, b2⟩ := tmod_place (x := Int.ofNat (o[i]).toNat) (Int.natCast_nonneg _) hmi
        generalize Int.tmod (i : Int) (Int.ofNat m.length) = a at a1 a2 ⊢
        generalize Int.tmod (Int.ofNat (o[i]).toNat) (Int.ofNat m.length) = b at b1 b2 ⊢
        obtain ⟨a, rfl⟩ := Int.eq_ofNat_of_zero_le a1
        obtain ⟨b, rfl⟩ := Int.eq_ofNat_of_zero_le b1
        have ha : a < m.length := by simp at a2; exact a2
        have hb' : b < m.length := by simp at b2; exact b2
        have hne : (Int.ofNat m.length != 0) = true := bne_iff_ne.2 (fun e => by rw [e] at hmi; cases hmi)
        simp only [toNat_nat]
        rw [hne, inbT ha, inbT hb', nltT ha, nltT hb', getD_lt ha, getD_lt hb', List.length_set, inbT hb', nltT hb']
        simp only [condT, chkT, Bool.and_self]
        exact nxt _ (hp.trans (List.set_set_perm ha hb').symm)
      · rw [iltF (show ¬ (0 : Int) < Int.ofNat m.length from fun h => hm (Int.ofNat_lt.1 h))]
        exact nxt m hp
    · have : i = o.length := by omega
      subst this
      rw [iltF (by simp)]
      exact rest l m hp hl hv node from_ step n level
theorem f0_eq (l : List Msg) (o : List UInt8) (node : List UInt8) (from_ step n level : Int) : f0 l o node from_ step n level = outB true := by
  show sh0 l o node from_ step n level f1 = _
  unfold sh0
  by_cases hl : l.length ≤ 30
  · rw [iltF (show ¬ (30 : Int) < Int.ofNat l.length by simp; omega)]
    by_cases ho : o.length ≤ 40
    · rw [iltF (show ¬ (40 : Int) < Int.ofNat o.length by simp; omega)]
      cases ilt 100 (Int.ofNat node.length)
      · cases ilt 40 n
        · cases hv : validB l
          · rfl
          · show sh1 l o node from_ step n level (f3 100000) = _
            unfold sh1
            rw [nleT (show l.length ≤ 100000 by omega)]
            exact loop l hl hv node from_ step n level o ho 100000 0 l (by omega) (by omega) (List.Perm.refl _)
        · rfl
      · rfl
    · rw [iltT (show (40 : Int) < Int.ofNat o.length by simp; omega)]
      rfl
  · rw [iltT (show (30 : Int) < Int.ofNat l.length by simp; omega)]
    rfl
theorem ok : CtxOk Try.prog X := ctxOk tab (by
  intro p hp
  simp only [List.mem_cons, List.not_mem_nil, or_false] at hp
  rcases hp with rfl | rfl | rfl | rfl | rfl | rfl | rfl | rfl | rfl
  · exact awake.spOk
  · exact equalM.spOk
  · exact cloneM.spOk
  · exact rvalid.spOk
  · exact rhas.spOk
  · exact sortedM.spOk
  · exact seriesC.spOk
  · exact missC.spOk
  · exact equalI.spOk) (by
  intro p hp
  cases hp)
theorem okM : MOk Try.prog X := fun g sp h => by cases h
theorem spec (l : List Msg) (order : List UInt8) (node : List UInt8) (from_ : Int) (step : Int) (n : Int) (level : Int) : CallSpec Try.prog E 7 [(.lst .msg l), (.lst .u8 order), (.str node), (.int .i64 from_), (.int .i64 step), (.int .i64 n), (.int .i64 level)] (.bool (true)) [] :=
  runFn_sound ok okM Try.call7 Try.func7 (by kernel_rfl) (by kernel_rfl) (by kernel_rfl) (by show 7 ≤ 245; decide) (by decide) (by rfl) ((run l order node from_ step n level).trans (f0_eq l order node from_ step n level))
noncomputable def sp : Sp U El := fun args k => match args with
  | [.lst .msg l, .lst .u8 order, .str node, .int .i64 from_, .int .i64 step, .int .i64 n, .int .i64 level] => k (.bool (true)) []
  | _ => none
theorem spOk : SpOk Try.prog E 7 sp where
  det := fun vs => by
    unfold sp
    split
    · exact ⟨some (_, _), fun _ => rfl⟩
    · exact ⟨none, fun _ => rfl⟩
  ok := fun vs k r h => by
    unfold sp at h
    split at h
    · exact ⟨_, _, spec _ _ _ _ _ _ _, h⟩
    · cases h
end lawShuf
end Go.Proofs.Ytkeplmpcijigaaa
