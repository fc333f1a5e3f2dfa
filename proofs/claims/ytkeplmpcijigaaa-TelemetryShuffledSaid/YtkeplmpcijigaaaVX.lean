/- Series: what the code and the document give. -/
import Derived.Test.YtkeplmpcijigaaaVU
namespace Go.Proofs.Ytkeplmpcijigaaa
set_option linter.unusedSectionVars false
set_option linter.unusedSimpArgs false
set_option linter.unusedVariables false
set_option maxRecDepth 100000

noncomputable def cntZ (t : Int) : List Msg → Nat
  | [] => 0
  | m :: l => bif ile m.at_ t then cntZ t l + 1 else 0
noncomputable def lvOf (ss : List Msg) (k : Nat) : Int := bif Nat.beq k 0 then 4194305 else (List.getD ss (k - 1) d_msg).lv
noncomputable def ofL (l : List Msg) (node : List UInt8) : List Msg := List.filter (fun m => Msg.nd m == node) (sortM l)
noncomputable def levels (ss : List Msg) (from_ step : Int) (i n : Nat) : List Int := (List.range' i n).map fun k : Nat => lvOf ss (cntZ (from_ + (k : Int) * step) ss)
noncomputable def serE (l : List Msg) (node : List UInt8) (from_ step n : Int) : Int := bif !(validB l && nameB node) then 1 else bif (ile 1 step && ile step 86400) && ((ile 0 n && ile n 10000) && (timeB from_ && timeB (from_ + n * step))) then 0 else 2
noncomputable def serL (l : List Msg) (node : List UInt8) (from_ step n : Int) : List Int := bif serE l node from_ step n == 0 then levels (ofL l node) from_ step 0 n.toNat else []

theorem cntZ_le (t : Int) : ∀ ss, cntZ t ss ≤ ss.length := by
  intro ss
  induction ss with
  | nil => exact Nat.le_refl _
  | cons m ss ih => unfold cntZ; cases ile m.at_ t <;> simp <;> omega
theorem cntZ_in (t : Int) : ∀ (ss : List Msg) (k : Nat) (h : k < ss.length), k < cntZ t ss → ss[k].at_ ≤ t := by
  intro ss
  induction ss with
  | nil => intro k h; cases h
  | cons m ss ih =>
    intro k h hk
    unfold cntZ at hk
    cases hb : ile m.at_ t
    · rw [hb] at hk; simp at hk
    · rw [hb] at hk
      cases k with
      | zero => exact ileI hb
      | succ k => exact ih k (by simpa using h) (by simpa using hk)
theorem cntZ_out (t : Int) : ∀ (ss : List Msg) (h : cntZ t ss < ss.length), t < ss[cntZ t ss].at_ := by
  intro ss
  induction ss with
  | nil => intro h; cases h
  | cons m ss ih =>
    intro h
    cases hb : ile m.at_ t
    · have e : cntZ t (m :: ss) = 0 := by unfold cntZ; rw [hb]; rfl
      simp only [e]
      have := ileN hb
      show t < m.at_
      omega
    · have e : cntZ t (m :: ss) = cntZ t ss + 1 := by
        conv => lhs; unfold cntZ; rw [hb]
        rfl
      simp only [e] at h ⊢
      exact ih (by simpa using h)
theorem cntZ_mono {t t' : Int} (h : t ≤ t') : ∀ ss, cntZ t ss ≤ cntZ t' ss := by
  intro ss
  induction ss with
  | nil => exact Nat.le_refl _
  | cons m ss ih =>
    unfold cntZ
    cases hb : ile m.at_ t
    · exact Nat.zero_le _
    · have := ileI hb
      rw [ileT (show m.at_ ≤ t' by omega)]
      simp only [cond_true]
      omega
theorem time_wrap {from_ step : Int} {i : Nat} {n : Int} (hf : timeB from_ = true) (h1 : 1 ≤ step) (h2 : step ≤ 86400) (hi : (i : Int) ≤ n) (hn : n ≤ 10000) : IntKind.wrap .i64 (from_ + IntKind.wrap .i64 ((i : Int) * step)) = from_ + (i : Int) * step := by
  simp only [timeB, Bool.and_eq_true] at hf
  have a1 := ileI hf.1
  have a2 := ileI hf.2
  have b1 : (0 : Int) ≤ (i : Int) * step := Int.mul_nonneg (by omega) (by omega)
  have b2 : (i : Int) * step ≤ 10000 * 86400 := Int.le_trans (Int.mul_le_mul_of_nonneg_right (show (i : Int) ≤ 10000 by omega) (by omega)) (Int.mul_le_mul_of_nonneg_left h2 (by omega))
  rw [wrapI (x := (i : Int) * step) (by omega) (by omega), wrapI (by omega) (by omega)]

namespace seriesC
noncomputable def bd : Code := (Try.f28.body).getD .skip
noncomputable def X : Ctx U El := ⟨E, tds, zeros, eqs, specOf [(35, within.sp), (47, ofM.sp), (48, instant.sp)], 100000, 85, dspecOf [], fun _ => none⟩
noncomputable def nmR : Norm U := ⟨[(10, .int)], [10, 11], [10], [], [], [], []⟩
noncomputable def RR : Kont U El := fun st => normK nmR st (retFin [10, 11] [10])
noncomputable def nm1 : Norm U := ⟨[], [2, 3, 4, 12], [], [], [], [], []⟩
noncomputable def nm2 : Norm U := ⟨[(14, .int)], [14], [14], [], [], [], []⟩
noncomputable def nm3 : Norm U := ⟨[(14, .int)], [2, 3, 12, 14, 15, 16, 51, 52], [14], [], [], [], []⟩
noncomputable def nm4 : Norm U := ⟨[(14, .int)], [2, 3, 12, 14, 15, 16, 51, 52], [14], [], [], [], []⟩
noncomputable def nm5 : Norm U := ⟨[(14, .int)], [2, 3, 12, 14, 15, 16, 51, 52], [14], [], [], [], []⟩
noncomputable def nm6 : Norm U := ⟨[(14, .int)], [2, 3, 12, 14, 15, 16, 17, 51, 52], [14], [], [], [], []⟩
noncomputable def nm7 : Norm U := ⟨[(14, .int)], [2, 3, 12, 14, 16, 17, 51, 52], [14], [], [], [], []⟩
noncomputable def fr0 (l : List Msg) (node : List UInt8) (from_ : Int) (step : Int) (n : Int) : St U El := ⟨[(0, (.lst .msg l)), (1, (.str node)), (2, (.int .i64 from_)), (3, (.int .i64 step)), (4, (.int .i64 n))], []⟩
noncomputable def fr1 (from2 : Int) (step3 : Int) (n4 : Int) (s12 : List Msg) : St U El := ⟨[(2, (.int .i64 from2)), (3, (.int .i64 step3)), (4, (.int .i64 n4)), (12, (.lst .msg s12))], []⟩
noncomputable def fr2 (out14 : List Int) : St U El := ⟨[(14, (.ful 14))], [(14, (.rows .int out14))]⟩
noncomputable def fr3 (from2 : Int) (step3 : Int) (s12 : List Msg) (out14 : List Int) (level15 : Int) (next16 : Int) (x51 : Int) (x52 : Int) : St U El := ⟨[(2, (.int .i64 from2)), (3, (.int .i64 step3)), (12, (.lst .msg s12)), (14, (.ful 14)), (15, (.int .i64 level15)), (16, (.int .i64 next16)), (51, (.int .i64 x51)), (52, (.int .i64 x52))], [(14, (.rows .int out14))]⟩
noncomputable def fr4 (from2 : Int) (step3 : Int) (s12 : List Msg) (out14 : List Int) (level15 : Int) (next16 : Int) (x51 : Int) (x52 : Int) : St U El := ⟨[(2, (.int .i64 from2)), (3, (.int .i64 step3)), (12, (.lst .msg s12)), (14, (.ful 14)), (15, (.int .i64 level15)), (16, (.int .i64 next16)), (51, (.int .i64 x51)), (52, (.int .i64 x52))], [(14, (.rows .int out14))]⟩
noncomputable def fr5 (from2 : Int) (step3 : Int) (s12 : List Msg) (out14 : List Int) (level15 : Int) (next16 : Int) (x51 : Int) (x52 : Int) : St U El := ⟨[(2, (.int .i64 from2)), (3, (.int .i64 step3)), (12, (.lst .msg s12)), (14, (.ful 14)), (15, (.int .i64 level15)), (16, (.int .i64 next16)), (51, (.int .i64 x51)), (52, (.int .i64 x52))], [(14, (.rows .int out14))]⟩
noncomputable def fr6 (from2 : Int) (step3 : Int) (s12 : List Msg) (out14 : List Int) (level15 : Int) (next16 : Int) (i17 : Int) (x51 : Int) (x52 : Int) : St U El := ⟨[(2, (.int .i64 from2)), (3, (.int .i64 step3)), (12, (.lst .msg s12)), (14, (.ful 14)), (15, (.int .i64 level15)), (16, (.int .i64 next16)), (17, (.int .i64 i17)), (51, (.int .i64 x51)), (52, (.int .i64 x52))], [(14, (.rows .int out14))]⟩
noncomputable def fr7 (from2 : Int) (step3 : Int) (s12 : List Msg) (out14 : List Int) (next16 : Int) (i17 : Int) (x51 : Int) (x52 : Int) : St U El := ⟨[(2, (.int .i64 from2)), (3, (.int .i64 step3)), (12, (.lst .msg s12)), (14, (.ful 14)), (16, (.int .i64 next16)), (17, (.int .i64 i17)), (51, (.int .i64 x51)), (52, (.int .i64 x52))], [(14, (.rows .int out14))]⟩
noncomputable def sh0 (l : List Msg) (node : List UInt8) (from_ : Int) (step : Int) (n : Int) (k1 : Int → Int → Int → (List Msg) → R) : R :=
  condB (((bif validB l && nameB node then 0 else 1)) != (0 : Int)) (some ((.tup [(.ful 0), (.int .i64 ((bif validB l && nameB node then 0 else 1)))]), [(0, .rows .int ([] : List Int))])) (condB (!((ile (1 : Int) step && ile step (86400 : Int)))) (some ((.tup [(.ful 0), (.int .i64 (2 : Int))]), [(0, .rows .int ([] : List Int))])) (condB (!((ile (0 : Int) n && ile n (10000 : Int)))) (some ((.tup [(.ful 0), (.int .i64 (2 : Int))]), [(0, .rows .int ([] : List Int))])) (condB (!(timeB from_)) (some ((.tup [(.ful 0), (.int .i64 (2 : Int))]), [(0, .rows .int ([] : List Int))])) (condB (!(timeB (IntKind.wrap .i64 (from_ + (IntKind.wrap .i64 (n * step)))))) (some ((.tup [(.ful 0), (.int .i64 (2 : Int))]), [(0, .rows .int ([] : List Int))])) (k1 from_ step n ((bif validB l && nameB node then List.filter (fun m => Msg.nd m == node) (sortM l) else [])))))))
noncomputable def sh1 (from2 : Int) (step3 : Int) (n4 : Int) (s12 : List Msg) (k3 : Int → Int → (List Msg) → (List Int) → Int → Int → Int → Int → R) : R :=
  k3 from2 step3 s12 ([] : List Int) (4194305 : Int) (0 : Int) n4 (0 : Int)
noncomputable def sh2 (out14 : List Int) : R :=
  some ((.tup [(.ful 0), (.int .i64 (0 : Int))]), [(0, .rows .int out14)])
noncomputable def sh3 (from2 : Int) (step3 : Int) (s12 : List Msg) (out14 : List Int) (level15 : Int) (next16 : Int) (x51 : Int) (x52 : Int) (k2 : (List Int) → R) (k6 : Int → Int → (List Msg) → (List Int) → Int → Int → Int → Int → Int → R) : R :=
  condB (ilt x52 x51) (k6 from2 step3 s12 out14 level15 next16 x52 x51 x52) (k2 out14)
noncomputable def sh4 (from2 : Int) (step3 : Int) (s12 : List Msg) (out14 : List Int) (level15 : Int) (next16 : Int) (x51 : Int) (x52 : Int) (k3 : Int → Int → (List Msg) → (List Int) → Int → Int → Int → Int → R) : R :=
  k3 from2 step3 s12 out14 level15 next16 x51 (IntKind.wrap .i64 (x52 + (1 : Int)))
noncomputable def sh5 (from2 : Int) (step3 : Int) (s12 : List Msg) (out14 : List Int) (level15 : Int) (next16 : Int) (x51 : Int) (x52 : Int) (k4 : Int → Int → (List Msg) → (List Int) → Int → Int → Int → Int → R) : R :=
  chk (nle ((List.length out14 + List.length ([level15] : List Int)) * 8) 140737488355328 && nle (List.length out14 + List.length ([level15] : List Int)) 9223372036854775807) (k4 from2 step3 s12 (out14 ++ ([level15] : List Int)) level15 next16 x51 x52)
noncomputable def sh6 (from2 : Int) (step3 : Int) (s12 : List Msg) (out14 : List Int) (level15 : Int) (next16 : Int) (i17 : Int) (x51 : Int) (x52 : Int) (k5 : Int → Int → (List Msg) → (List Int) → Int → Int → Int → Int → R) (k7 : Int → Int → (List Msg) → (List Int) → Int → Int → Int → Int → R) : R :=
  condB (ilt next16 (Int.ofNat (List.length s12))) (chk (inb next16 (List.length s12)) (condB (ile ((List.getD s12 (Int.toNat next16) d_msg).at_) (IntKind.wrap .i64 (from2 + (IntKind.wrap .i64 (i17 * step3))))) (k7 from2 step3 s12 out14 next16 i17 x51 x52) (k5 from2 step3 s12 out14 level15 next16 x51 x52))) (k5 from2 step3 s12 out14 level15 next16 x51 x52)
noncomputable def sh7 (from2 : Int) (step3 : Int) (s12 : List Msg) (out14 : List Int) (next16 : Int) (i17 : Int) (x51 : Int) (x52 : Int) (k6 : Int → Int → (List Msg) → (List Int) → Int → Int → Int → Int → Int → R) : R :=
  chk (inb next16 (List.length s12)) (k6 from2 step3 s12 out14 ((List.getD s12 (Int.toNat next16) d_msg).lv) (IntKind.wrap .i64 (next16 + (1 : Int))) i17 x51 x52)
noncomputable def it3 (Kb2 : Kont U El) (n : Nat) : Kont U El := iter nm3 (fun st' K' => exec X (cdp [1, 1, 1, 1, 1, 0, 1, 0, 0] bd) (.seq none .d (.seq none .d (.seq (some nm4) (.block (.seq none .d (.seq (some nm5) (.block (.loop nm6 (.seq (some nm7) .d .d))) .d))) .d))) st' K' (Eblk 1 (cutK nm2 Kb2) (fun _ _ => none)) RR) n
noncomputable def it6 (Kb2 : Kont U El) (Kb4 : Kont U El) (Kb5 : Kont U El) (n : Nat) : Kont U El := iter nm6 (fun st' K' => exec X (cdp [1, 1, 1, 1, 1, 0, 1, 0, 0, 1, 1, 0, 0, 1, 0, 0, 0] bd) (.seq (some nm7) .d .d) st' K' (Eblk 3 (cutK nm5 Kb5) (Eblk 2 (cutK nm4 Kb4) (Eblk 1 (cutK nm2 Kb2) (fun _ _ => none)))) RR) n
noncomputable def ct1 : Kont U El := fun st => exec X (cdp [1, 1, 1] bd) (.seq none .d (.seq none .d (.seq (some nm2) (.seq none .d (.block (.loop nm3 (.seq none .d (.seq none .d (.seq (some nm4) (.block (.seq none .d (.seq (some nm5) (.block (.loop nm6 (.seq (some nm7) .d .d))) .d))) .d)))))) .d))) st RR (fun _ _ => none) RR
noncomputable def ct2 : Kont U El := fun st => exec X (cdp [1, 1, 1, 1, 1, 1] bd) .d st RR (fun _ _ => none) RR
noncomputable def ct4 (Kb2 : Kont U El) (Kb3 : Kont U El) : Kont U El := fun st => exec X (cdp [1, 1, 1, 1, 1, 0, 1, 0, 0, 1, 1, 1] bd) .d st (cutK nm3 Kb3) (Eblk 1 (cutK nm2 Kb2) (fun _ _ => none)) RR
noncomputable def ct5 (Kb2 : Kont U El) (Kb4 : Kont U El) : Kont U El := fun st => exec X (cdp [1, 1, 1, 1, 1, 0, 1, 0, 0, 1, 1, 0, 0, 1, 1] bd) .d st (cutK nm4 Kb4) (Eblk 2 (cutK nm4 Kb4) (Eblk 1 (cutK nm2 Kb2) (fun _ _ => none))) RR
noncomputable def ct7 (Kb2 : Kont U El) (Kb4 : Kont U El) (Kb5 : Kont U El) (Kb6 : Kont U El) : Kont U El := fun st => exec X (cdp [1, 1, 1, 1, 1, 0, 1, 0, 0, 1, 1, 0, 0, 1, 0, 0, 0, 1] bd) .d st (cutK nm6 Kb6) (Eblk 3 (cutK nm5 Kb5) (Eblk 2 (cutK nm4 Kb4) (Eblk 1 (cutK nm2 Kb2) (fun _ _ => none)))) RR
theorem P0 (l : List Msg) (node : List UInt8) (from_ : Int) (step : Int) (n : Int) : exec X (cdp [] bd) (.seq none .d (.seq none .d (.seq (some nm1) .d (.seq none .d (.seq none .d (.seq (some nm2) (.seq none .d (.block (.loop nm3 (.seq none .d (.seq none .d (.seq (some nm4) (.block (.seq none .d (.seq (some nm5) (.block (.loop nm6 (.seq (some nm7) .d .d))) .d))) .d)))))) .d)))))) (fr0 l node from_ step n) RR (fun _ _ => none) RR = sh0 l node from_ step n (fun y0 y1 y2 y3 => (hid ct1) (fr1 y0 y1 y2 y3)) := by kernel_rfl
theorem P1 (from2 : Int) (step3 : Int) (n4 : Int) (s12 : List Msg) : exec X (cdp [1, 1, 1] bd) (.seq none .d (.seq none .d (.seq (some nm2) (.seq none .d (.block (.loop nm3 (.seq none .d (.seq none .d (.seq (some nm4) (.block (.seq none .d (.seq (some nm5) (.block (.loop nm6 (.seq (some nm7) .d .d))) .d))) .d)))))) .d))) (fr1 from2 step3 n4 s12) RR (fun _ _ => none) RR = sh1 from2 step3 n4 s12 (fun y0 y1 y2 y3 y4 y5 y6 y7 => (hid (it3 (hid ct2) 100000)) (fr3 y0 y1 y2 y3 y4 y5 y6 y7)) := by kernel_rfl
theorem P2 (out14 : List Int) : exec X (cdp [1, 1, 1, 1, 1, 1] bd) .d (fr2 out14) RR (fun _ _ => none) RR = sh2 out14 := by kernel_rfl
theorem P3 (from2 : Int) (step3 : Int) (s12 : List Msg) (out14 : List Int) (level15 : Int) (next16 : Int) (x51 : Int) (x52 : Int) (Kb2 : Kont U El) (Kb3 : Kont U El) : exec X (cdp [1, 1, 1, 1, 1, 0, 1, 0, 0] bd) (.seq none .d (.seq none .d (.seq (some nm4) (.block (.seq none .d (.seq (some nm5) (.block (.loop nm6 (.seq (some nm7) .d .d))) .d))) .d))) (fr3 from2 step3 s12 out14 level15 next16 x51 x52) (cutK nm3 Kb3) (Eblk 1 (cutK nm2 Kb2) (fun _ _ => none)) RR = sh3 from2 step3 s12 out14 level15 next16 x51 x52 (fun y0 => Kb2 (fr2 y0)) (fun y0 y1 y2 y3 y4 y5 y6 y7 y8 => (hid (it6 Kb2 (hid (ct4 Kb2 Kb3)) (hid (ct5 Kb2 (hid (ct4 Kb2 Kb3)))) 100000)) (fr6 y0 y1 y2 y3 y4 y5 y6 y7 y8)) := by kernel_rfl
theorem P4 (from2 : Int) (step3 : Int) (s12 : List Msg) (out14 : List Int) (level15 : Int) (next16 : Int) (x51 : Int) (x52 : Int) (Kb2 : Kont U El) (Kb3 : Kont U El) : exec X (cdp [1, 1, 1, 1, 1, 0, 1, 0, 0, 1, 1, 1] bd) .d (fr4 from2 step3 s12 out14 level15 next16 x51 x52) (cutK nm3 Kb3) (Eblk 1 (cutK nm2 Kb2) (fun _ _ => none)) RR = sh4 from2 step3 s12 out14 level15 next16 x51 x52 (fun y0 y1 y2 y3 y4 y5 y6 y7 => Kb3 (fr3 y0 y1 y2 y3 y4 y5 y6 y7)) := by kernel_rfl
theorem P5 (from2 : Int) (step3 : Int) (s12 : List Msg) (out14 : List Int) (level15 : Int) (next16 : Int) (x51 : Int) (x52 : Int) (Kb2 : Kont U El) (Kb4 : Kont U El) : exec X (cdp [1, 1, 1, 1, 1, 0, 1, 0, 0, 1, 1, 0, 0, 1, 1] bd) .d (fr5 from2 step3 s12 out14 level15 next16 x51 x52) (cutK nm4 Kb4) (Eblk 2 (cutK nm4 Kb4) (Eblk 1 (cutK nm2 Kb2) (fun _ _ => none))) RR = sh5 from2 step3 s12 out14 level15 next16 x51 x52 (fun y0 y1 y2 y3 y4 y5 y6 y7 => Kb4 (fr4 y0 y1 y2 y3 y4 y5 y6 y7)) := by kernel_rfl
theorem P6 (from2 : Int) (step3 : Int) (s12 : List Msg) (out14 : List Int) (level15 : Int) (next16 : Int) (i17 : Int) (x51 : Int) (x52 : Int) (Kb2 : Kont U El) (Kb4 : Kont U El) (Kb5 : Kont U El) (Kb6 : Kont U El) : exec X (cdp [1, 1, 1, 1, 1, 0, 1, 0, 0, 1, 1, 0, 0, 1, 0, 0, 0] bd) (.seq (some nm7) .d .d) (fr6 from2 step3 s12 out14 level15 next16 i17 x51 x52) (cutK nm6 Kb6) (Eblk 3 (cutK nm5 Kb5) (Eblk 2 (cutK nm4 Kb4) (Eblk 1 (cutK nm2 Kb2) (fun _ _ => none)))) RR = sh6 from2 step3 s12 out14 level15 next16 i17 x51 x52 (fun y0 y1 y2 y3 y4 y5 y6 y7 => Kb5 (fr5 y0 y1 y2 y3 y4 y5 y6 y7)) (fun y0 y1 y2 y3 y4 y5 y6 y7 => (hid (ct7 Kb2 Kb4 Kb5 Kb6)) (fr7 y0 y1 y2 y3 y4 y5 y6 y7)) := by kernel_rfl
theorem P7 (from2 : Int) (step3 : Int) (s12 : List Msg) (out14 : List Int) (next16 : Int) (i17 : Int) (x51 : Int) (x52 : Int) (Kb2 : Kont U El) (Kb4 : Kont U El) (Kb5 : Kont U El) (Kb6 : Kont U El) : exec X (cdp [1, 1, 1, 1, 1, 0, 1, 0, 0, 1, 1, 0, 0, 1, 0, 0, 0, 1] bd) .d (fr7 from2 step3 s12 out14 next16 i17 x51 x52) (cutK nm6 Kb6) (Eblk 3 (cutK nm5 Kb5) (Eblk 2 (cutK nm4 Kb4) (Eblk 1 (cutK nm2 Kb2) (fun _ _ => none)))) RR = sh7 from2 step3 s12 out14 next16 i17 x51 x52 (fun y0 y1 y2 y3 y4 y5 y6 y7 y8 => Kb6 (fr6 y0 y1 y2 y3 y4 y5 y6 y7 y8)) := by kernel_rfl
noncomputable def f2 (out14 : List Int) : R := sh2 out14
noncomputable def f4 (k3 : Int → Int → (List Msg) → (List Int) → Int → Int → Int → Int → R) (from2 : Int) (step3 : Int) (s12 : List Msg) (out14 : List Int) (level15 : Int) (next16 : Int) (x51 : Int) (x52 : Int) : R := sh4 from2 step3 s12 out14 level15 next16 x51 x52 k3
noncomputable def f5 (k3 : Int → Int → (List Msg) → (List Int) → Int → Int → Int → Int → R) (from2 : Int) (step3 : Int) (s12 : List Msg) (out14 : List Int) (level15 : Int) (next16 : Int) (x51 : Int) (x52 : Int) : R := sh5 from2 step3 s12 out14 level15 next16 x51 x52 (f4 k3)
noncomputable def f7 (k3 : Int → Int → (List Msg) → (List Int) → Int → Int → Int → Int → R) (k6 : Int → Int → (List Msg) → (List Int) → Int → Int → Int → Int → Int → R) (from2 : Int) (step3 : Int) (s12 : List Msg) (out14 : List Int) (next16 : Int) (i17 : Int) (x51 : Int) (x52 : Int) : R := sh7 from2 step3 s12 out14 next16 i17 x51 x52 k6
noncomputable def f6 (k3 : Int → Int → (List Msg) → (List Int) → Int → Int → Int → Int → R) : Nat → Int → Int → (List Msg) → (List Int) → Int → Int → Int → Int → Int → R
  | 0 => fun _ _ _ _ _ _ _ _ _ => none
  | n + 1 => fun from2 step3 s12 out14 level15 next16 i17 x51 x52 => sh6 from2 step3 s12 out14 level15 next16 i17 x51 x52 (f5 k3) (f7 k3 (f6 k3 n))
noncomputable def f3 : Nat → Int → Int → (List Msg) → (List Int) → Int → Int → Int → Int → R
  | 0 => fun _ _ _ _ _ _ _ _ => none
  | n + 1 => fun from2 step3 s12 out14 level15 next16 x51 x52 => sh3 from2 step3 s12 out14 level15 next16 x51 x52 f2 (f6 (f3 n) 100000)
noncomputable def f1 (from2 : Int) (step3 : Int) (n4 : Int) (s12 : List Msg) : R := sh1 from2 step3 n4 s12 (f3 100000)
noncomputable def f0 (l : List Msg) (node : List UInt8) (from_ : Int) (step : Int) (n : Int) : R := sh0 l node from_ step n f1
theorem T2 (out14 : List Int) : (hid ct2) (fr2 out14) = f2 out14 := by
  refine (congrFun (hid_eq _) _).trans <| (P2 out14).trans ?_
  show _ = sh2 out14
  rfl
theorem T4 (KL3 : Kont U El) (k3 : Int → Int → (List Msg) → (List Int) → Int → Int → Int → Int → R) (h3 : ∀ from2 step3 s12 out14 level15 next16 x51 x52, KL3 (fr3 from2 step3 s12 out14 level15 next16 x51 x52) = k3 from2 step3 s12 out14 level15 next16 x51 x52) (from2 : Int) (step3 : Int) (s12 : List Msg) (out14 : List Int) (level15 : Int) (next16 : Int) (x51 : Int) (x52 : Int) : (hid (ct4 (hid ct2) KL3)) (fr4 from2 step3 s12 out14 level15 next16 x51 x52) = f4 k3 from2 step3 s12 out14 level15 next16 x51 x52 := by
  refine (congrFun (hid_eq _) _).trans <| (P4 from2 step3 s12 out14 level15 next16 x51 x52 (hid ct2) KL3).trans ?_
  show _ = sh4 from2 step3 s12 out14 level15 next16 x51 x52 k3
  simp only [h3]
theorem T5 (KL3 : Kont U El) (k3 : Int → Int → (List Msg) → (List Int) → Int → Int → Int → Int → R) (h3 : ∀ from2 step3 s12 out14 level15 next16 x51 x52, KL3 (fr3 from2 step3 s12 out14 level15 next16 x51 x52) = k3 from2 step3 s12 out14 level15 next16 x51 x52) (from2 : Int) (step3 : Int) (s12 : List Msg) (out14 : List Int) (level15 : Int) (next16 : Int) (x51 : Int) (x52 : Int) : (hid (ct5 (hid ct2) (hid (ct4 (hid ct2) KL3)))) (fr5 from2 step3 s12 out14 level15 next16 x51 x52) = f5 k3 from2 step3 s12 out14 level15 next16 x51 x52 := by
  refine (congrFun (hid_eq _) _).trans <| (P5 from2 step3 s12 out14 level15 next16 x51 x52 (hid ct2) (hid (ct4 (hid ct2) KL3))).trans ?_
  show _ = sh5 from2 step3 s12 out14 level15 next16 x51 x52 (f4 k3)
  simp only [T4 KL3 k3 h3]
theorem T7 (KL3 : Kont U El) (KL6 : Kont U El) (k3 : Int → Int → (List Msg) → (List Int) → Int → Int → Int → Int → R) (k6 : Int → Int → (List Msg) → (List Int) → Int → Int → Int → Int → Int → R) (h3 : ∀ from2 step3 s12 out14 level15 next16 x51 x52, KL3 (fr3 from2 step3 s12 out14 level15 next16 x51 x52) = k3 from2 step3 s12 out14 level15 next16 x51 x52) (h6 : ∀ from2 step3 s12 out14 level15 next16 i17 x51 x52, KL6 (fr6 from2 step3 s12 out14 level15 next16 i17 x51 x52) = k6 from2 step3 s12 out14 level15 next16 i17 x51 x52) (from2 : Int) (step3 : Int) (s12 : List Msg) (out14 : List Int) (next16 : Int) (i17 : Int) (x51 : Int) (x52 : Int) : (hid (ct7 (hid ct2) (hid (ct4 (hid ct2) KL3)) (hid (ct5 (hid ct2) (hid (ct4 (hid ct2) KL3)))) KL6)) (fr7 from2 step3 s12 out14 next16 i17 x51 x52) = f7 k3 k6 from2 step3 s12 out14 next16 i17 x51 x52 := by
  refine (congrFun (hid_eq _) _).trans <| (P7 from2 step3 s12 out14 next16 i17 x51 x52 (hid ct2) (hid (ct4 (hid ct2) KL3)) (hid (ct5 (hid ct2) (hid (ct4 (hid ct2) KL3)))) KL6).trans ?_
  show _ = sh7 from2 step3 s12 out14 next16 i17 x51 x52 k6
  simp only [h6]
theorem T6 (KL3 : Kont U El) (k3 : Int → Int → (List Msg) → (List Int) → Int → Int → Int → Int → R) (h3 : ∀ from2 step3 s12 out14 level15 next16 x51 x52, KL3 (fr3 from2 step3 s12 out14 level15 next16 x51 x52) = k3 from2 step3 s12 out14 level15 next16 x51 x52) : ∀ (n : Nat), ∀ from2 step3 s12 out14 level15 next16 i17 x51 x52, it6 (hid ct2) (hid (ct4 (hid ct2) KL3)) (hid (ct5 (hid ct2) (hid (ct4 (hid ct2) KL3)))) n (fr6 from2 step3 s12 out14 level15 next16 i17 x51 x52) = f6 k3 n from2 step3 s12 out14 level15 next16 i17 x51 x52 := by
  intro n
  induction n with
  | zero => intros; rfl
  | succ n ih =>
    intro from2 step3 s12 out14 level15 next16 i17 x51 x52
    refine (P6 from2 step3 s12 out14 level15 next16 i17 x51 x52 (hid ct2) (hid (ct4 (hid ct2) KL3)) (hid (ct5 (hid ct2) (hid (ct4 (hid ct2) KL3)))) (it6 (hid ct2) (hid (ct4 (hid ct2) KL3)) (hid (ct5 (hid ct2) (hid (ct4 (hid ct2) KL3)))) n)).trans ?_
    show _ = sh6 from2 step3 s12 out14 level15 next16 i17 x51 x52 (f5 k3) (f7 k3 (f6 k3 n))
    simp only [T5 KL3 k3 h3, T7 KL3 (it6 (hid ct2) (hid (ct4 (hid ct2) KL3)) (hid (ct5 (hid ct2) (hid (ct4 (hid ct2) KL3)))) n) k3 (f6 k3 n) h3 ih]
theorem H6 (KL3 : Kont U El) (k3 : Int → Int → (List Msg) → (List Int) → Int → Int → Int → Int → R) (h3 : ∀ from2 step3 s12 out14 level15 next16 x51 x52, KL3 (fr3 from2 step3 s12 out14 level15 next16 x51 x52) = k3 from2 step3 s12 out14 level15 next16 x51 x52) (from2 : Int) (step3 : Int) (s12 : List Msg) (out14 : List Int) (level15 : Int) (next16 : Int) (i17 : Int) (x51 : Int) (x52 : Int) : hid (it6 (hid ct2) (hid (ct4 (hid ct2) KL3)) (hid (ct5 (hid ct2) (hid (ct4 (hid ct2) KL3)))) 100000) (fr6 from2 step3 s12 out14 level15 next16 i17 x51 x52) = f6 k3 100000 from2 step3 s12 out14 level15 next16 i17 x51 x52 := (congrFun (hid_eq _) _).trans (T6 KL3 k3 h3 100000 from2 step3 s12 out14 level15 next16 i17 x51 x52)
theorem T3 : ∀ (n : Nat), ∀ from2 step3 s12 out14 level15 next16 x51 x52, it3 (hid ct2) n (fr3 from2 step3 s12 out14 level15 next16 x51 x52) = f3 n from2 step3 s12 out14 level15 next16 x51 x52 := by
  intro n
  induction n with
  | zero => intros; rfl
  | succ n ih =>
    intro from2 step3 s12 out14 level15 next16 x51 x52
    refine (P3 from2 step3 s12 out14 level15 next16 x51 x52 (hid ct2) (it3 (hid ct2) n)).trans ?_
    show _ = sh3 from2 step3 s12 out14 level15 next16 x51 x52 f2 (f6 (f3 n) 100000)
    simp only [T2, H6 (it3 (hid ct2) n) (f3 n) ih]
theorem H3 (from2 : Int) (step3 : Int) (s12 : List Msg) (out14 : List Int) (level15 : Int) (next16 : Int) (x51 : Int) (x52 : Int) : hid (it3 (hid ct2) 100000) (fr3 from2 step3 s12 out14 level15 next16 x51 x52) = f3 100000 from2 step3 s12 out14 level15 next16 x51 x52 := (congrFun (hid_eq _) _).trans (T3 100000 from2 step3 s12 out14 level15 next16 x51 x52)
theorem T1 (from2 : Int) (step3 : Int) (n4 : Int) (s12 : List Msg) : (hid ct1) (fr1 from2 step3 n4 s12) = f1 from2 step3 n4 s12 := by
  refine (congrFun (hid_eq _) _).trans <| (P1 from2 step3 n4 s12).trans ?_
  show _ = sh1 from2 step3 n4 s12 (f3 100000)
  simp only [H3]
theorem T0 (l : List Msg) (node : List UInt8) (from_ : Int) (step : Int) (n : Int) : exec X bd (.seq none .d (.seq none .d (.seq (some nm1) .d (.seq none .d (.seq none .d (.seq (some nm2) (.seq none .d (.block (.loop nm3 (.seq none .d (.seq none .d (.seq (some nm4) (.block (.seq none .d (.seq (some nm5) (.block (.loop nm6 (.seq (some nm7) .d .d))) .d))) .d)))))) .d)))))) (fr0 l node from_ step n) RR (fun _ _ => none) RR = f0 l node from_ step n := by
  refine (P0 l node from_ step n).trans ?_
  show _ = sh0 l node from_ step n f1
  simp only [T1]
theorem run (l : List Msg) (node : List UInt8) (from_ : Int) (step : Int) (n : Int) : runFn X bd (.seq none .d (.seq none .d (.seq (some nm1) .d (.seq none .d (.seq none .d (.seq (some nm2) (.seq none .d (.block (.loop nm3 (.seq none .d (.seq none .d (.seq (some nm4) (.block (.seq none .d (.seq (some nm5) (.block (.loop nm6 (.seq (some nm7) .d .d))) .d))) .d)))))) .d)))))) nmR [10, 11] [10] [(.lst .msg l), (.str node), (.int .i64 from_), (.int .i64 step), (.int .i64 n)] = f0 l node from_ step n := T0 l node from_ step n
theorem inner (ss : List Msg) (hl : ss.length ≤ 10000) (from_ step : Int) (K : Int → Int → (List Msg) → (List Int) → Int → Int → Int → Int → R) (out : List Int) (N : Int) (i : Nat) (ht : IntKind.wrap .i64 (from_ + IntKind.wrap .i64 ((i : Int) * step)) = from_ + (i : Int) * step) :
    ∀ (n a : Nat), ss.length < n + a → a ≤ cntZ (from_ + (i : Int) * step) ss → f6 K n from_ step ss out (lvOf ss a) (a : Int) (i : Int) N (i : Int) = f5 K from_ step ss out (lvOf ss (cntZ (from_ + (i : Int) * step) ss)) ((cntZ (from_ + (i : Int) * step) ss : Nat) : Int) N (i : Int) := by
  intro n
  have hc := cntZ_le (from_ + (i : Int) * step) ss
  induction n with
  | zero => intro a h1 h2; omega
  | succ n ih =>
    intro a h1 h2
    show sh6 from_ step ss out (lvOf ss a) (a : Int) (i : Int) N (i : Int) (f5 K) (f7 K (f6 K n)) = _
    unfold sh6
    by_cases ha : a < cntZ (from_ + (i : Int) * step) ss
    · have hal : a < ss.length := by omega
      rw [iltT (show (a : Int) < Int.ofNat ss.length by simp; omega), inbT hal, toNat_nat, getD_lt hal, ht, ileT (cntZ_in _ ss a hal ha)]
      show sh7 from_ step ss out (a : Int) (i : Int) N (i : Int) (f6 K n) = _
      unfold sh7
      rw [inbT hal, toNat_nat, getD_lt hal, wrapS a (by omega), chkT]
      have e : (ss[a]).lv = lvOf ss (a + 1) := by
        unfold lvOf
        rw [show Nat.beq (a + 1) 0 = false from rfl, cond_false, Nat.add_sub_cancel, getD_lt hal]
      rw [e]
      exact ih (a + 1) (by omega) ha
    · have e : a = cntZ (from_ + (i : Int) * step) ss := by omega
      by_cases hal : a < ss.length
      · have := cntZ_out (from_ + (i : Int) * step) ss (by omega)
        rw [iltT (show (a : Int) < Int.ofNat ss.length by simp; omega), inbT hal, toNat_nat, getD_lt hal, ht]
        have h3 : ¬ (ss[a]).at_ ≤ from_ + (i : Int) * step := by
          have : ss[a] = ss[cntZ (from_ + (i : Int) * step) ss]'(by omega) := by congr 1
          rw [this]; omega
        rw [ileF h3]
        simp only [condT, condF, chkT]
        rw [← e]
      · rw [iltF (show ¬ (a : Int) < Int.ofNat ss.length by simp; omega), condF, ← e]
theorem outer (ss : List Msg) (hl : ss.length ≤ 10000) (from_ step : Int) (N : Nat) (hN : N ≤ 10000) (hf : timeB from_ = true) (h1 : 1 ≤ step) (h2 : step ≤ 86400) :
    ∀ (n i a : Nat) (out : List Int), N < n + i → i ≤ N → out.length = i → a ≤ cntZ (from_ + (i : Int) * step) ss → f3 n from_ step ss out (lvOf ss a) (a : Int) (N : Int) (i : Int) = f2 (out ++ levels ss from_ step i (N - i)) := by
  intro n
  induction n with
  | zero => intro i a out h3 h4; omega
  | succ n ih =>
    intro i a out h3 h4 h5 h6
    show sh3 from_ step ss out (lvOf ss a) (a : Int) (N : Int) (i : Int) f2 (f6 (f3 n) 100000) = _
    unfold sh3
    by_cases hi : i < N
    · have ht := time_wrap (i := i) (n := 10000) hf h1 h2 (by omega) (Int.le_refl _)
      rw [iltT (show (i : Int) < (N : Int) by omega), condT, inner ss hl from_ step (f3 n) out N i ht 100000 a (by omega) h6]
      show sh5 from_ step ss out _ _ (N : Int) (i : Int) (f4 (f3 n)) = _
      unfold sh5
      rw [show (nle ((List.length out + List.length ([lvOf ss (cntZ (from_ + (i : Int) * step) ss)] : List Int)) * 8) 140737488355328 && nle (List.length out + List.length ([lvOf ss (cntZ (from_ + (i : Int) * step) ss)] : List Int)) 9223372036854775807) = true from Bool.and_eq_true_iff.2 ⟨nleT (by simp; omega), nleT (by simp; omega)⟩, chkT]
      show f3 n from_ step ss (out ++ [lvOf ss (cntZ (from_ + (i : Int) * step) ss)]) _ _ (N : Int) (IntKind.wrap .i64 ((i : Int) + 1)) = _
      rw [wrapS i (by omega)]
      have hm : cntZ (from_ + (i : Int) * step) ss ≤ cntZ (from_ + ((i + 1 : Nat) : Int) * step) ss := cntZ_mono (by
        have : (((i + 1 : Nat) : Int)) * step = (i : Int) * step + step := by
          rw [Int.natCast_add, Int.add_mul]; simp
        omega) ss
      rw [ih (i + 1) _ _ (by omega) hi (by simp [h5]) hm]
      congr 1
      rw [show N - i = (N - (i + 1)) + 1 by omega]
      simp only [levels, List.range'_succ, List.map_cons, List.append_assoc, List.singleton_append]
    · have : i = N := by omega
      subst this
      rw [iltF (by omega), condF, Nat.sub_self]
      simp [levels]
theorem f0_eq (l : List Msg) (node : List UInt8) (from_ step n : Int) : f0 l node from_ step n = some (.tup [.ful 0, .int .i64 (serE l node from_ step n)], [(0, .rows .int (serL l node from_ step n))]) := by
  show sh0 l node from_ step n f1 = _
  unfold sh0 serL serE
  cases hvn : validB l && nameB node
  · rfl
  simp only [cond_true, Bool.not_true, cond_false]
  rw [show ((0 : Int) != (0 : Int)) = false from rfl, condF]
  cases hs : ile 1 step && ile step 86400
  · rfl
  cases hn : ile 0 n && ile n 10000
  · rfl
  cases hf : timeB from_
  · rfl
  simp only [Bool.and_eq_true] at hs hn hvn
  have s1 := ileI hs.1
  have s2 := ileI hs.2
  have n1 := ileI hn.1
  have n2 := ileI hn.2
  obtain ⟨N, rfl⟩ := Int.eq_ofNat_of_zero_le n1
  rw [time_wrap (i := N) (n := 10000) hf s1 s2 n2 (Int.le_refl _)]
  cases ht : timeB (from_ + (N : Int) * step)
  · rfl
  obtain ⟨_, hlen⟩ := valid_keys hvn.1
  have hss : (ofL l node).length ≤ 10000 := Nat.le_trans (List.length_filter_le _ _) (by rw [(sortM_perm l).length_eq]; exact hlen)
  exact (outer (ofL l node) hss from_ step N (by omega) hf s1 s2 100000 0 0 [] (by omega) (by omega) rfl (Nat.zero_le _)).trans rfl
theorem ok : CtxOk Try.prog X := ctxOk tab (by
  intro p hp
  simp only [List.mem_cons, List.not_mem_nil, or_false] at hp
  rcases hp with rfl | rfl | rfl
  · exact within.spOk
  · exact ofM.spOk
  · exact instant.spOk) (by
  intro p hp
  cases hp)
theorem okM : MOk Try.prog X := fun g sp h => by cases h
theorem spec (l : List Msg) (node : List UInt8) (from_ : Int) (step : Int) (n : Int) : CallSpec Try.prog E 28 [(.lst .msg l), (.str node), (.int .i64 from_), (.int .i64 step), (.int .i64 n)] (.tup [(.ful 0), (.int .i64 (serE l node from_ step n))]) [(0, .rows .int (serL l node from_ step n))] :=
  runFn_sound ok okM Try.call28 Try.func28 (by kernel_rfl) (by kernel_rfl) (by kernel_rfl) (by show 5 ≤ 85; decide) (by decide) (by rfl) ((run l node from_ step n).trans (f0_eq l node from_ step n))
noncomputable def sp : Sp U El := fun args k => match args with
  | [.lst .msg l, .str node, .int .i64 from_, .int .i64 step, .int .i64 n] => k (.tup [(.ful 0), (.int .i64 (serE l node from_ step n))]) [(0, .rows .int (serL l node from_ step n))]
  | _ => none
theorem spOk : SpOk Try.prog E 28 sp where
  det := fun vs => by
    unfold sp
    split
    · exact ⟨some (_, _), fun _ => rfl⟩
    · exact ⟨none, fun _ => rfl⟩
  ok := fun vs k r h => by
    unfold sp at h
    split at h
    · exact ⟨_, _, spec _ _ _ _ _, h⟩
    · cases h
end seriesC
namespace rgiven
noncomputable def bd : Code := (Try.f50.body).getD .skip
noncomputable def X : Ctx U El := ⟨E, tds, zeros, eqs, specOf [(23, rvalid.sp), (53, risname.sp)], 100000, 13, dspecOf [], fun _ => none⟩
noncomputable def nmR : Norm U := ⟨[], [4], [], [], [], [], []⟩
noncomputable def RR : Kont U El := fun st => normK nmR st (retFin [4] [])
noncomputable def nm1 : Norm U := ⟨[], [], [], [], [], [], []⟩
noncomputable def fr0 (l : List Msg) (node : List UInt8) : St U El := ⟨[(0, (.lst .msg l)), (1, (.str node))], []⟩
noncomputable def fr1 : St U El := ⟨[], []⟩
noncomputable def sh0 (l : List Msg) (node : List UInt8) (k1 : R) : R :=
  condB (!(validB l)) (some ((.int .i64 (1 : Int)), [])) (condB (!(nameB node)) (some ((.int .i64 (1 : Int)), [])) (k1))
noncomputable def sh1 : R :=
  some ((.int .i64 (0 : Int)), [])
noncomputable def ct1 : Kont U El := fun st => exec X (cdp [1, 1] bd) .d st RR (fun _ _ => none) RR
theorem P0 (l : List Msg) (node : List UInt8) : exec X (cdp [] bd) (.seq none .d (.seq (some nm1) .d .d)) (fr0 l node) RR (fun _ _ => none) RR = sh0 l node ((hid ct1) (fr1)) := by kernel_rfl
theorem P1 : exec X (cdp [1, 1] bd) .d (fr1) RR (fun _ _ => none) RR = sh1 := by kernel_rfl
noncomputable def f1 : R := sh1
noncomputable def f0 (l : List Msg) (node : List UInt8) : R := sh0 l node f1
theorem T1 : (hid ct1) (fr1) = f1 := by
  refine (congrFun (hid_eq _) _).trans <| (P1).trans ?_
  show _ = sh1
  rfl
theorem T0 (l : List Msg) (node : List UInt8) : exec X bd (.seq none .d (.seq (some nm1) .d .d)) (fr0 l node) RR (fun _ _ => none) RR = f0 l node := by
  refine (P0 l node).trans ?_
  show _ = sh0 l node f1
  simp only [T1]
theorem run (l : List Msg) (node : List UInt8) : runFn X bd (.seq none .d (.seq (some nm1) .d .d)) nmR [4] [] [(.lst .msg l), (.str node)] = f0 l node := T0 l node
theorem f0_eq (l : List Msg) (node : List UInt8) : f0 l node = some (.int .i64 (bif validB l && nameB node then 0 else 1), []) := by
  show sh0 l node f1 = _
  unfold sh0
  cases validB l
  · rfl
  · cases nameB node <;> rfl
theorem ok : CtxOk Try.prog X := ctxOk tab (by
  intro p hp
  simp only [List.mem_cons, List.not_mem_nil, or_false] at hp
  rcases hp with rfl | rfl
  · exact rvalid.spOk
  · exact risname.spOk) (by
  intro p hp
  cases hp)
theorem okM : MOk Try.prog X := fun g sp h => by cases h
theorem spec (l : List Msg) (node : List UInt8) : CallSpec Try.prog E 50 [(.lst .msg l), (.str node)] (.int .i64 ((bif validB l && nameB node then 0 else 1))) [] :=
  runFn_sound ok okM Try.call50 Try.func50 (by kernel_rfl) (by kernel_rfl) (by kernel_rfl) (by show 2 ≤ 13; decide) (by decide) (by rfl) ((run l node).trans (f0_eq l node))
noncomputable def sp : Sp U El := fun args k => match args with
  | [.lst .msg l, .str node] => k (.int .i64 ((bif validB l && nameB node then 0 else 1))) []
  | _ => none
theorem spOk : SpOk Try.prog E 50 sp where
  det := fun vs => by
    unfold sp
    split
    · exact ⟨some (_, _), fun _ => rfl⟩
    · exact ⟨none, fun _ => rfl⟩
  ok := fun vs k r h => by
    unfold sp at h
    split at h
    · exact ⟨_, _, spec _ _, h⟩
    · cases h
end rgiven

abbrev Qual (node : List UInt8) (t : Int) (m : Msg) : Prop := m.nd = node ∧ m.at_ ≤ t
def BestOk (l : List Msg) (node : List UInt8) (t : Int) (k : Nat) (b : Int) : Prop :=
  (b = -1 ∧ ∀ m, m ∈ l.take k → ¬ Qual node t m) ∨ ∃ (j : Nat) (h : j < l.length), b = j ∧ Qual node t l[j] ∧ ∀ m, m ∈ l.take k → Qual node t m → beforeB l[j] m = false
theorem best_level {l : List Msg} {node : List UInt8} {t : Int} {b : Int} (hv : keysB l = true) (h : BestOk l node t l.length b) :
    lvOf (ofL l node) (cntZ t (ofL l node)) = bif ilt b 0 then 4194305 else (List.getD l b.toNat d_msg).lv := by
  have hmem : ∀ m, m ∈ ofL l node ↔ m ∈ l ∧ m.nd = node := fun m => by
    unfold ofL
    rw [List.mem_filter, (sortM_perm l).mem_iff]
    simp
  have hsrt : Sorted (ofL l node) := (sortM_sorted l).filter _
  have hc := cntZ_le t (ofL l node)
  rcases h with ⟨rfl, h⟩ | ⟨j, hj, rfl, hq, hmax⟩
  · rw [List.take_length] at h
    have h0 : cntZ t (ofL l node) = 0 := by
      by_cases h1 : cntZ t (ofL l node) = 0
      · exact h1
      · have h2 := cntZ_in t (ofL l node) 0 (by omega) (by omega)
        have h3 := (hmem _).1 (List.getElem_mem (show 0 < (ofL l node).length by omega))
        exact absurd ⟨h3.2, h2⟩ (h _ h3.1)
    rw [h0]; rfl
  · rw [List.take_length] at hmax
    have hin : l[j] ∈ ofL l node := (hmem _).2 ⟨List.getElem_mem hj, hq.1⟩
    obtain ⟨p, hp, ep⟩ := List.mem_iff_getElem.1 hin
    have hpc : p < cntZ t (ofL l node) := by
      by_cases h1 : p < cntZ t (ofL l node)
      · exact h1
      · have h2 := cntZ_out t (ofL l node) (by omega)
        have h3 : (ofL l node)[cntZ t (ofL l node)].at_ ≤ (ofL l node)[p].at_ := by
          by_cases h4 : cntZ t (ofL l node) = p
          · have : (ofL l node)[cntZ t (ofL l node)]'(by omega) = (ofL l node)[p] := by congr 1
            rw [this]; exact Int.le_refl _
          · have h5 := List.pairwise_iff_getElem.1 hsrt (cntZ t (ofL l node)) p (by omega) hp (by omega)
            have h6 : ¬ beforeB (ofL l node)[p] (ofL l node)[cntZ t (ofL l node)] = true := by rw [h5]; simp
            rw [before_iff] at h6
            omega
        rw [ep] at h3
        have := hq.2
        omega
    obtain ⟨x, hx⟩ : ∃ x, x = (ofL l node)[cntZ t (ofL l node) - 1]'(by omega) := ⟨_, rfl⟩
    have hxin := (hmem x).1 (by rw [hx]; exact List.getElem_mem _)
    have hxat : x.at_ ≤ t := by rw [hx]; exact cntZ_in t _ _ _ (by omega)
    have b1 := hmax x hxin.1 ⟨hxin.2, hxat⟩
    have b2 : beforeB x l[j] = false := by
      rw [hx, ← ep]
      by_cases h4 : p = cntZ t (ofL l node) - 1
      · have : (ofL l node)[cntZ t (ofL l node) - 1]'(by omega) = (ofL l node)[p] := by congr 1; exact h4.symm
        rw [this]; exact before_irrefl _
      · exact List.pairwise_iff_getElem.1 hsrt p (cntZ t (ofL l node) - 1) hp (by omega) (by omega)
    have he : l[j] = x := keysB_iff.1 hv l[j] (List.getElem_mem hj) x hxin.1 b1 b2
    unfold lvOf
    rw [show Nat.beq (cntZ t (ofL l node)) 0 = false by cases hz : cntZ t (ofL l node) with | zero => omega | succ k => rfl, cond_false, getD_lt (show cntZ t (ofL l node) - 1 < (ofL l node).length by omega), ← hx, ← he, iltF (show ¬ (j : Int) < 0 by omega), cond_false, toNat_nat, getD_lt hj]
namespace rseries
noncomputable def bd : Code := (Try.f31.body).getD .skip
noncomputable def X : Ctx U El := ⟨E, tds, zeros, eqs, specOf [(20, rbefore.sp), (50, rgiven.sp), (51, rtime.sp)], 100000, 112, dspecOf [], fun _ => none⟩
noncomputable def nmR : Norm U := ⟨[(10, .int)], [10, 11], [10], [], [], [], []⟩
noncomputable def RR : Kont U El := fun st => normK nmR st (retFin [10, 11] [10])
noncomputable def nm1 : Norm U := ⟨[], [0, 1, 2, 3, 4], [], [], [], [], []⟩
noncomputable def nm2 : Norm U := ⟨[(12, .int)], [12], [12], [], [], [], []⟩
noncomputable def nm3 : Norm U := ⟨[(12, .int)], [0, 1, 2, 3, 4, 12, 13], [12], [], [], [], []⟩
noncomputable def nm4 : Norm U := ⟨[(12, .int)], [0, 1, 2, 3, 4, 12, 13], [12], [], [], [], []⟩
noncomputable def nm5 : Norm U := ⟨[(12, .int)], [0, 1, 2, 3, 4, 12, 13, 14], [12], [], [], [], []⟩
noncomputable def nm6 : Norm U := ⟨[(12, .int)], [0, 1, 2, 3, 4, 12, 13, 14, 15], [12], [], [], [], []⟩
noncomputable def nm7 : Norm U := ⟨[(12, .int)], [0, 1, 2, 3, 4, 12, 13, 14, 15], [12], [], [], [], []⟩
noncomputable def fr0 (l : List Msg) (node : List UInt8) (from_ : Int) (step : Int) (n : Int) : St U El := ⟨[(0, (.lst .msg l)), (1, (.str node)), (2, (.int .i64 from_)), (3, (.int .i64 step)), (4, (.int .i64 n))], []⟩
noncomputable def fr1 (l0 : List Msg) (node1 : List UInt8) (from2 : Int) (step3 : Int) (n4 : Int) : St U El := ⟨[(0, (.lst .msg l0)), (1, (.str node1)), (2, (.int .i64 from2)), (3, (.int .i64 step3)), (4, (.int .i64 n4))], []⟩
noncomputable def fr2 (out12 : List Int) : St U El := ⟨[(12, (.ful 12))], [(12, (.rows .int out12))]⟩
noncomputable def fr3 (l0 : List Msg) (node1 : List UInt8) (from2 : Int) (step3 : Int) (n4 : Int) (out12 : List Int) (i13 : Int) : St U El := ⟨[(0, (.lst .msg l0)), (1, (.str node1)), (2, (.int .i64 from2)), (3, (.int .i64 step3)), (4, (.int .i64 n4)), (12, (.ful 12)), (13, (.int .i64 i13))], [(12, (.rows .int out12))]⟩
noncomputable def fr4 (l0 : List Msg) (node1 : List UInt8) (from2 : Int) (step3 : Int) (n4 : Int) (out12 : List Int) (i13 : Int) : St U El := ⟨[(0, (.lst .msg l0)), (1, (.str node1)), (2, (.int .i64 from2)), (3, (.int .i64 step3)), (4, (.int .i64 n4)), (12, (.ful 12)), (13, (.int .i64 i13))], [(12, (.rows .int out12))]⟩
noncomputable def fr5 (l0 : List Msg) (node1 : List UInt8) (from2 : Int) (step3 : Int) (n4 : Int) (out12 : List Int) (i13 : Int) (best14 : Int) : St U El := ⟨[(0, (.lst .msg l0)), (1, (.str node1)), (2, (.int .i64 from2)), (3, (.int .i64 step3)), (4, (.int .i64 n4)), (12, (.ful 12)), (13, (.int .i64 i13)), (14, (.int .i64 best14))], [(12, (.rows .int out12))]⟩
noncomputable def fr6 (l0 : List Msg) (node1 : List UInt8) (from2 : Int) (step3 : Int) (n4 : Int) (out12 : List Int) (i13 : Int) (best14 : Int) (kv15 : Int) : St U El := ⟨[(0, (.lst .msg l0)), (1, (.str node1)), (2, (.int .i64 from2)), (3, (.int .i64 step3)), (4, (.int .i64 n4)), (12, (.ful 12)), (13, (.int .i64 i13)), (14, (.int .i64 best14)), (15, (.int .i64 kv15))], [(12, (.rows .int out12))]⟩
noncomputable def fr7 (l0 : List Msg) (node1 : List UInt8) (from2 : Int) (step3 : Int) (n4 : Int) (out12 : List Int) (i13 : Int) (best14 : Int) (kv15 : Int) : St U El := ⟨[(0, (.lst .msg l0)), (1, (.str node1)), (2, (.int .i64 from2)), (3, (.int .i64 step3)), (4, (.int .i64 n4)), (12, (.ful 12)), (13, (.int .i64 i13)), (14, (.int .i64 best14)), (15, (.int .i64 kv15))], [(12, (.rows .int out12))]⟩
noncomputable def sh0 (l : List Msg) (node : List UInt8) (from_ : Int) (step : Int) (n : Int) (k1 : (List Msg) → (List UInt8) → Int → Int → Int → R) : R :=
  condB (((bif validB l && nameB node then 0 else 1)) != (0 : Int)) (some ((.tup [(.ful 0), (.int .i64 ((bif validB l && nameB node then 0 else 1)))]), [(0, .rows .int ([] : List Int))])) (condB (ilt step (1 : Int)) (some ((.tup [(.ful 0), (.int .i64 (2 : Int))]), [(0, .rows .int ([] : List Int))])) (condB (ilt (86400 : Int) step) (some ((.tup [(.ful 0), (.int .i64 (2 : Int))]), [(0, .rows .int ([] : List Int))])) (condB (ilt n (0 : Int)) (some ((.tup [(.ful 0), (.int .i64 (2 : Int))]), [(0, .rows .int ([] : List Int))])) (condB (ilt (10000 : Int) n) (some ((.tup [(.ful 0), (.int .i64 (2 : Int))]), [(0, .rows .int ([] : List Int))])) (condB (!(timeB from_)) (some ((.tup [(.ful 0), (.int .i64 (2 : Int))]), [(0, .rows .int ([] : List Int))])) (condB (!(timeB (IntKind.wrap .i64 (from_ + (IntKind.wrap .i64 (n * step)))))) (some ((.tup [(.ful 0), (.int .i64 (2 : Int))]), [(0, .rows .int ([] : List Int))])) (k1 l node from_ step n)))))))
noncomputable def sh1 (l0 : List Msg) (node1 : List UInt8) (from2 : Int) (step3 : Int) (n4 : Int) (k3 : (List Msg) → (List UInt8) → Int → Int → Int → (List Int) → Int → R) : R :=
  k3 l0 node1 from2 step3 n4 ([] : List Int) (0 : Int)
noncomputable def sh2 (out12 : List Int) : R :=
  some ((.tup [(.ful 0), (.int .i64 (0 : Int))]), [(0, .rows .int out12)])
noncomputable def sh3 (l0 : List Msg) (node1 : List UInt8) (from2 : Int) (step3 : Int) (n4 : Int) (out12 : List Int) (i13 : Int) (k2 : (List Int) → R) (k6 : (List Msg) → (List UInt8) → Int → Int → Int → (List Int) → Int → Int → Int → R) : R :=
  condB (ilt i13 n4) (k6 l0 node1 from2 step3 n4 out12 i13 (-1 : Int) (0 : Int)) (k2 out12)
noncomputable def sh4 (l0 : List Msg) (node1 : List UInt8) (from2 : Int) (step3 : Int) (n4 : Int) (out12 : List Int) (i13 : Int) (k3 : (List Msg) → (List UInt8) → Int → Int → Int → (List Int) → Int → R) : R :=
  k3 l0 node1 from2 step3 n4 out12 (IntKind.wrap .i64 (i13 + (1 : Int)))
noncomputable def sh5 (l0 : List Msg) (node1 : List UInt8) (from2 : Int) (step3 : Int) (n4 : Int) (out12 : List Int) (i13 : Int) (best14 : Int) (k4 : (List Msg) → (List UInt8) → Int → Int → Int → (List Int) → Int → R) : R :=
  condB (ilt best14 (0 : Int)) (chk (nle ((List.length out12 + List.length ([(4194305 : Int)] : List Int)) * 8) 140737488355328 && nle (List.length out12 + List.length ([(4194305 : Int)] : List Int)) 9223372036854775807) (k4 l0 node1 from2 step3 n4 (out12 ++ ([(4194305 : Int)] : List Int)) i13)) (chk (inb best14 (List.length l0)) (chk (nle ((List.length out12 + List.length ([(List.getD l0 (Int.toNat best14) d_msg).lv] : List Int)) * 8) 140737488355328 && nle (List.length out12 + List.length ([(List.getD l0 (Int.toNat best14) d_msg).lv] : List Int)) 9223372036854775807) (k4 l0 node1 from2 step3 n4 (out12 ++ ([(List.getD l0 (Int.toNat best14) d_msg).lv] : List Int)) i13)))
noncomputable def sh6 (l0 : List Msg) (node1 : List UInt8) (from2 : Int) (step3 : Int) (n4 : Int) (out12 : List Int) (i13 : Int) (best14 : Int) (kv15 : Int) (k5 : (List Msg) → (List UInt8) → Int → Int → Int → (List Int) → Int → Int → R) (k7 : (List Msg) → (List UInt8) → Int → Int → Int → (List Int) → Int → Int → Int → R) : R :=
  condB (ilt kv15 (Int.ofNat (List.length l0))) (chk (inb kv15 (List.length l0)) (condB (((List.getD l0 (Int.toNat kv15) d_msg).nd) == node1) (chk (inb kv15 (List.length l0)) (condB (ile ((List.getD l0 (Int.toNat kv15) d_msg).at_) (IntKind.wrap .i64 (from2 + (IntKind.wrap .i64 (i13 * step3))))) (condB (ilt best14 (0 : Int)) (k7 l0 node1 from2 step3 n4 out12 i13 kv15 kv15) (chk (inb best14 (List.length l0)) (chk (inb kv15 (List.length l0)) (condB (beforeB (List.getD l0 (Int.toNat best14) d_msg) (List.getD l0 (Int.toNat kv15) d_msg)) (k7 l0 node1 from2 step3 n4 out12 i13 kv15 kv15) (k7 l0 node1 from2 step3 n4 out12 i13 best14 kv15))))) (k7 l0 node1 from2 step3 n4 out12 i13 best14 kv15))) (k7 l0 node1 from2 step3 n4 out12 i13 best14 kv15))) (k5 l0 node1 from2 step3 n4 out12 i13 best14)
noncomputable def sh7 (l0 : List Msg) (node1 : List UInt8) (from2 : Int) (step3 : Int) (n4 : Int) (out12 : List Int) (i13 : Int) (best14 : Int) (kv15 : Int) (k6 : (List Msg) → (List UInt8) → Int → Int → Int → (List Int) → Int → Int → Int → R) : R :=
  k6 l0 node1 from2 step3 n4 out12 i13 best14 (IntKind.wrap .i64 (kv15 + (1 : Int)))
noncomputable def it3 (Kb2 : Kont U El) (n : Nat) : Kont U El := iter nm3 (fun st' K' => exec X (cdp [1, 1, 1, 1, 0, 1, 0, 0] bd) (.seq none .d (.seq (some nm4) (.block (.seq none .d (.seq (some nm5) (.seq none .d (.block (.loop nm6 (.seq none .d (.seq (some nm7) .d .d))))) .d))) .d)) st' K' (Eblk 0 (cutK nm2 Kb2) (fun _ _ => none)) RR) n
noncomputable def it6 (Kb2 : Kont U El) (Kb4 : Kont U El) (Kb5 : Kont U El) (n : Nat) : Kont U El := iter nm6 (fun st' K' => exec X (cdp [1, 1, 1, 1, 0, 1, 0, 0, 1, 0, 0, 1, 0, 1, 0, 0] bd) (.seq none .d (.seq (some nm7) .d .d)) st' K' (Eblk 2 (cutK nm5 Kb5) (Eblk 1 (cutK nm4 Kb4) (Eblk 0 (cutK nm2 Kb2) (fun _ _ => none)))) RR) n
noncomputable def ct1 : Kont U El := fun st => exec X (cdp [1, 1, 1] bd) (.seq none .d (.seq (some nm2) (.seq none .d (.block (.loop nm3 (.seq none .d (.seq (some nm4) (.block (.seq none .d (.seq (some nm5) (.seq none .d (.block (.loop nm6 (.seq none .d (.seq (some nm7) .d .d))))) .d))) .d))))) .d)) st RR (fun _ _ => none) RR
noncomputable def ct2 : Kont U El := fun st => exec X (cdp [1, 1, 1, 1, 1] bd) .d st RR (fun _ _ => none) RR
noncomputable def ct4 (Kb2 : Kont U El) (Kb3 : Kont U El) : Kont U El := fun st => exec X (cdp [1, 1, 1, 1, 0, 1, 0, 0, 1, 1] bd) .d st (cutK nm3 Kb3) (Eblk 0 (cutK nm2 Kb2) (fun _ _ => none)) RR
noncomputable def ct5 (Kb2 : Kont U El) (Kb4 : Kont U El) : Kont U El := fun st => exec X (cdp [1, 1, 1, 1, 0, 1, 0, 0, 1, 0, 0, 1, 1] bd) .d st (cutK nm4 Kb4) (Eblk 1 (cutK nm4 Kb4) (Eblk 0 (cutK nm2 Kb2) (fun _ _ => none))) RR
noncomputable def ct7 (Kb2 : Kont U El) (Kb4 : Kont U El) (Kb5 : Kont U El) (Kb6 : Kont U El) : Kont U El := fun st => exec X (cdp [1, 1, 1, 1, 0, 1, 0, 0, 1, 0, 0, 1, 0, 1, 0, 0, 1, 1] bd) .d st (cutK nm6 Kb6) (Eblk 2 (cutK nm5 Kb5) (Eblk 1 (cutK nm4 Kb4) (Eblk 0 (cutK nm2 Kb2) (fun _ _ => none)))) RR
theorem P0 (l : List Msg) (node : List UInt8) (from_ : Int) (step : Int) (n : Int) : exec X (cdp [] bd) (.seq none .d (.seq none .d (.seq (some nm1) .d (.seq none .d (.seq (some nm2) (.seq none .d (.block (.loop nm3 (.seq none .d (.seq (some nm4) (.block (.seq none .d (.seq (some nm5) (.seq none .d (.block (.loop nm6 (.seq none .d (.seq (some nm7) .d .d))))) .d))) .d))))) .d))))) (fr0 l node from_ step n) RR (fun _ _ => none) RR = sh0 l node from_ step n (fun y0 y1 y2 y3 y4 => (hid ct1) (fr1 y0 y1 y2 y3 y4)) := by kernel_rfl
theorem P1 (l0 : List Msg) (node1 : List UInt8) (from2 : Int) (step3 : Int) (n4 : Int) : exec X (cdp [1, 1, 1] bd) (.seq none .d (.seq (some nm2) (.seq none .d (.block (.loop nm3 (.seq none .d (.seq (some nm4) (.block (.seq none .d (.seq (some nm5) (.seq none .d (.block (.loop nm6 (.seq none .d (.seq (some nm7) .d .d))))) .d))) .d))))) .d)) (fr1 l0 node1 from2 step3 n4) RR (fun _ _ => none) RR = sh1 l0 node1 from2 step3 n4 (fun y0 y1 y2 y3 y4 y5 y6 => (hid (it3 (hid ct2) 100000)) (fr3 y0 y1 y2 y3 y4 y5 y6)) := by kernel_rfl
theorem P2 (out12 : List Int) : exec X (cdp [1, 1, 1, 1, 1] bd) .d (fr2 out12) RR (fun _ _ => none) RR = sh2 out12 := by kernel_rfl
theorem P3 (l0 : List Msg) (node1 : List UInt8) (from2 : Int) (step3 : Int) (n4 : Int) (out12 : List Int) (i13 : Int) (Kb2 : Kont U El) (Kb3 : Kont U El) : exec X (cdp [1, 1, 1, 1, 0, 1, 0, 0] bd) (.seq none .d (.seq (some nm4) (.block (.seq none .d (.seq (some nm5) (.seq none .d (.block (.loop nm6 (.seq none .d (.seq (some nm7) .d .d))))) .d))) .d)) (fr3 l0 node1 from2 step3 n4 out12 i13) (cutK nm3 Kb3) (Eblk 0 (cutK nm2 Kb2) (fun _ _ => none)) RR = sh3 l0 node1 from2 step3 n4 out12 i13 (fun y0 => Kb2 (fr2 y0)) (fun y0 y1 y2 y3 y4 y5 y6 y7 y8 => (hid (it6 Kb2 (hid (ct4 Kb2 Kb3)) (hid (ct5 Kb2 (hid (ct4 Kb2 Kb3)))) 100000)) (fr6 y0 y1 y2 y3 y4 y5 y6 y7 y8)) := by kernel_rfl
theorem P4 (l0 : List Msg) (node1 : List UInt8) (from2 : Int) (step3 : Int) (n4 : Int) (out12 : List Int) (i13 : Int) (Kb2 : Kont U El) (Kb3 : Kont U El) : exec X (cdp [1, 1, 1, 1, 0, 1, 0, 0, 1, 1] bd) .d (fr4 l0 node1 from2 step3 n4 out12 i13) (cutK nm3 Kb3) (Eblk 0 (cutK nm2 Kb2) (fun _ _ => none)) RR = sh4 l0 node1 from2 step3 n4 out12 i13 (fun y0 y1 y2 y3 y4 y5 y6 => Kb3 (fr3 y0 y1 y2 y3 y4 y5 y6)) := by kernel_rfl
theorem P5 (l0 : List Msg) (node1 : List UInt8) (from2 : Int) (step3 : Int) (n4 : Int) (out12 : List Int) (i13 : Int) (best14 : Int) (Kb2 : Kont U El) (Kb4 : Kont U El) : exec X (cdp [1, 1, 1, 1, 0, 1, 0, 0, 1, 0, 0, 1, 1] bd) .d (fr5 l0 node1 from2 step3 n4 out12 i13 best14) (cutK nm4 Kb4) (Eblk 1 (cutK nm4 Kb4) (Eblk 0 (cutK nm2 Kb2) (fun _ _ => none))) RR = sh5 l0 node1 from2 step3 n4 out12 i13 best14 (fun y0 y1 y2 y3 y4 y5 y6 => Kb4 (fr4 y0 y1 y2 y3 y4 y5 y6)) := by kernel_rfl
theorem P6 (l0 : List Msg) (node1 : List UInt8) (from2 : Int) (step3 : Int) (n4 : Int) (out12 : List Int) (i13 : Int) (best14 : Int) (kv15 : Int) (Kb2 : Kont U El) (Kb4 : Kont U El) (Kb5 : Kont U El) (Kb6 : Kont U El) : exec X (cdp [1, 1, 1, 1, 0, 1, 0, 0, 1, 0, 0, 1, 0, 1, 0, 0] bd) (.seq none .d (.seq (some nm7) .d .d)) (fr6 l0 node1 from2 step3 n4 out12 i13 best14 kv15) (cutK nm6 Kb6) (Eblk 2 (cutK nm5 Kb5) (Eblk 1 (cutK nm4 Kb4) (Eblk 0 (cutK nm2 Kb2) (fun _ _ => none)))) RR = sh6 l0 node1 from2 step3 n4 out12 i13 best14 kv15 (fun y0 y1 y2 y3 y4 y5 y6 y7 => Kb5 (fr5 y0 y1 y2 y3 y4 y5 y6 y7)) (fun y0 y1 y2 y3 y4 y5 y6 y7 y8 => (hid (ct7 Kb2 Kb4 Kb5 Kb6)) (fr7 y0 y1 y2 y3 y4 y5 y6 y7 y8)) := by kernel_rfl
theorem P7 (l0 : List Msg) (node1 : List UInt8) (from2 : Int) (step3 : Int) (n4 : Int) (out12 : List Int) (i13 : Int) (best14 : Int) (kv15 : Int) (Kb2 : Kont U El) (Kb4 : Kont U El) (Kb5 : Kont U El) (Kb6 : Kont U El) : exec X (cdp [1, 1, 1, 1, 0, 1, 0, 0, 1, 0, 0, 1, 0, 1, 0, 0, 1, 1] bd) .d (fr7 l0 node1 from2 step3 n4 out12 i13 best14 kv15) (cutK nm6 Kb6) (Eblk 2 (cutK nm5 Kb5) (Eblk 1 (cutK nm4 Kb4) (Eblk 0 (cutK nm2 Kb2) (fun _ _ => none)))) RR = sh7 l0 node1 from2 step3 n4 out12 i13 best14 kv15 (fun y0 y1 y2 y3 y4 y5 y6 y7 y8 => Kb6 (fr6 y0 y1 y2 y3 y4 y5 y6 y7 y8)) := by kernel_rfl
noncomputable def f2 (out12 : List Int) : R := sh2 out12
noncomputable def f4 (k3 : (List Msg) → (List UInt8) → Int → Int → Int → (List Int) → Int → R) (l0 : List Msg) (node1 : List UInt8) (from2 : Int) (step3 : Int) (n4 : Int) (out12 : List Int) (i13 : Int) : R := sh4 l0 node1 from2 step3 n4 out12 i13 k3
noncomputable def f5 (k3 : (List Msg) → (List UInt8) → Int → Int → Int → (List Int) → Int → R) (l0 : List Msg) (node1 : List UInt8) (from2 : Int) (step3 : Int) (n4 : Int) (out12 : List Int) (i13 : Int) (best14 : Int) : R := sh5 l0 node1 from2 step3 n4 out12 i13 best14 (f4 k3)
noncomputable def f7 (k3 : (List Msg) → (List UInt8) → Int → Int → Int → (List Int) → Int → R) (k6 : (List Msg) → (List UInt8) → Int → Int → Int → (List Int) → Int → Int → Int → R) (l0 : List Msg) (node1 : List UInt8) (from2 : Int) (step3 : Int) (n4 : Int) (out12 : List Int) (i13 : Int) (best14 : Int) (kv15 : Int) : R := sh7 l0 node1 from2 step3 n4 out12 i13 best14 kv15 k6
noncomputable def f6 (k3 : (List Msg) → (List UInt8) → Int → Int → Int → (List Int) → Int → R) : Nat → (List Msg) → (List UInt8) → Int → Int → Int → (List Int) → Int → Int → Int → R
  | 0 => fun _ _ _ _ _ _ _ _ _ => none
  | n + 1 => fun l0 node1 from2 step3 n4 out12 i13 best14 kv15 => sh6 l0 node1 from2 step3 n4 out12 i13 best14 kv15 (f5 k3) (f7 k3 (f6 k3 n))
noncomputable def f3 : Nat → (List Msg) → (List UInt8) → Int → Int → Int → (List Int) → Int → R
  | 0 => fun _ _ _ _ _ _ _ => none
  | n + 1 => fun l0 node1 from2 step3 n4 out12 i13 => sh3 l0 node1 from2 step3 n4 out12 i13 f2 (f6 (f3 n) 100000)
noncomputable def f1 (l0 : List Msg) (node1 : List UInt8) (from2 : Int) (step3 : Int) (n4 : Int) : R := sh1 l0 node1 from2 step3 n4 (f3 100000)
noncomputable def f0 (l : List Msg) (node : List UInt8) (from_ : Int) (step : Int) (n : Int) : R := sh0 l node from_ step n f1
theorem T2 (out12 : List Int) : (hid ct2) (fr2 out12) = f2 out12 := by
  refine (congrFun (hid_eq _) _).trans <| (P2 out12).trans ?_
  show _ = sh2 out12
  rfl
theorem T4 (KL3 : Kont U El) (k3 : (List Msg) → (List UInt8) → Int → Int → Int → (List Int) → Int → R) (h3 : ∀ l0 node1 from2 step3 n4 out12 i13, KL3 (fr3 l0 node1 from2 step3 n4 out12 i13) = k3 l0 node1 from2 step3 n4 out12 i13) (l0 : List Msg) (node1 : List UInt8) (from2 : Int) (step3 : Int) (n4 : Int) (out12 : List Int) (i13 : Int) : (hid (ct4 (hid ct2) KL3)) (fr4 l0 node1 from2 step3 n4 out12 i13) = f4 k3 l0 node1 from2 step3 n4 out12 i13 := by
  refine (congrFun (hid_eq _) _).trans <| (P4 l0 node1 from2 step3 n4 out12 i13 (hid ct2) KL3).trans ?_
  show _ = sh4 l0 node1 from2 step3 n4 out12 i13 k3
  simp only [h3]
theorem T5 (KL3 : Kont U El) (k3 : (List Msg) → (List UInt8) → Int → Int → Int → (List Int) → Int → R) (h3 : ∀ l0 node1 from2 step3 n4 out12 i13, KL3 (fr3 l0 node1 from2 step3 n4 out12 i13) = k3 l0 node1 from2 step3 n4 out12 i13) (l0 : List Msg) (node1 : List UInt8) (from2 : Int) (step3 : Int) (n4 : Int) (out12 : List Int) (i13 : Int) (best14 : Int) : (hid (ct5 (hid ct2) (hid (ct4 (hid ct2) KL3)))) (fr5 l0 node1 from2 step3 n4 out12 i13 best14) = f5 k3 l0 node1 from2 step3 n4 out12 i13 best14 := by
  refine (congrFun (hid_eq _) _).trans <| (P5 l0 node1 from2 step3 n4 out12 i13 best14 (hid ct2) (hid (ct4 (hid ct2) KL3))).trans ?_
  show _ = sh5 l0 node1 from2 step3 n4 out12 i13 best14 (f4 k3)
  simp only [T4 KL3 k3 h3]
theorem T7 (KL3 : Kont U El) (KL6 : Kont U El) (k3 : (List Msg) → (List UInt8) → Int → Int → Int → (List Int) → Int → R) (k6 : (List Msg) → (List UInt8) → Int → Int → Int → (List Int) → Int → Int → Int → R) (h3 : ∀ l0 node1 from2 step3 n4 out12 i13, KL3 (fr3 l0 node1 from2 step3 n4 out12 i13) = k3 l0 node1 from2 step3 n4 out12 i13) (h6 : ∀ l0 node1 from2 step3 n4 out12 i13 best14 kv15, KL6 (fr6 l0 node1 from2 step3 n4 out12 i13 best14 kv15) = k6 l0 node1 from2 step3 n4 out12 i13 best14 kv15) (l0 : List Msg) (node1 : List UInt8) (from2 : Int) (step3 : Int) (n4 : Int) (out12 : List Int) (i13 : Int) (best14 : Int) (kv15 : Int) : (hid (ct7 (hid ct2) (hid (ct4 (hid ct2) KL3)) (hid (ct5 (hid ct2) (hid (ct4 (hid ct2) KL3)))) KL6)) (fr7 l0 node1 from2 step3 n4 out12 i13 best14 kv15) = f7 k3 k6 l0 node1 from2 step3 n4 out12 i13 best14 kv15 := by
  refine (congrFun (hid_eq _) _).trans <| (P7 l0 node1 from2 step3 n4 out12 i13 best14 kv15 (hid ct2) (hid (ct4 (hid ct2) KL3)) (hid (ct5 (hid ct2) (hid (ct4 (hid ct2) KL3)))) KL6).trans ?_
  show _ = sh7 l0 node1 from2 step3 n4 out12 i13 best14 kv15 k6
  simp only [h6]
theorem T6 (KL3 : Kont U El) (k3 : (List Msg) → (List UInt8) → Int → Int → Int → (List Int) → Int → R) (h3 : ∀ l0 node1 from2 step3 n4 out12 i13, KL3 (fr3 l0 node1 from2 step3 n4 out12 i13) = k3 l0 node1 from2 step3 n4 out12 i13) : ∀ (n : Nat), ∀ l0 node1 from2 step3 n4 out12 i13 best14 kv15, it6 (hid ct2) (hid (ct4 (hid ct2) KL3)) (hid (ct5 (hid ct2) (hid (ct4 (hid ct2) KL3)))) n (fr6 l0 node1 from2 step3 n4 out12 i13 best14 kv15) = f6 k3 n l0 node1 from2 step3 n4 out12 i13 best14 kv15 := by
  intro n
  induction n with
  | zero => intros; rfl
  | succ n ih =>
    intro l0 node1 from2 step3 n4 out12 i13 best14 kv15
    refine (P6 l0 node1 from2 step3 n4 out12 i13 best14 kv15 (hid ct2) (hid (ct4 (hid ct2) KL3)) (hid (ct5 (hid ct2) (hid (ct4 (hid ct2) KL3)))) (it6 (hid ct2) (hid (ct4 (hid ct2) KL3)) (hid (ct5 (hid ct2) (hid (ct4 (hid ct2) KL3)))) n)).trans ?_
    show _ = sh6 l0 node1 from2 step3 n4 out12 i13 best14 kv15 (f5 k3) (f7 k3 (f6 k3 n))
    simp only [T5 KL3 k3 h3, T7 KL3 (it6 (hid ct2) (hid (ct4 (hid ct2) KL3)) (hid (ct5 (hid ct2) (hid (ct4 (hid ct2) KL3)))) n) k3 (f6 k3 n) h3 ih]
theorem H6 (KL3 : Kont U El) (k3 : (List Msg) → (List UInt8) → Int → Int → Int → (List Int) → Int → R) (h3 : ∀ l0 node1 from2 step3 n4 out12 i13, KL3 (fr3 l0 node1 from2 step3 n4 out12 i13) = k3 l0 node1 from2 step3 n4 out12 i13) (l0 : List Msg) (node1 : List UInt8) (from2 : Int) (step3 : Int) (n4 : Int) (out12 : List Int) (i13 : Int) (best14 : Int) (kv15 : Int) : hid (it6 (hid ct2) (hid (ct4 (hid ct2) KL3)) (hid (ct5 (hid ct2) (hid (ct4 (hid ct2) KL3)))) 100000) (fr6 l0 node1 from2 step3 n4 out12 i13 best14 kv15) = f6 k3 100000 l0 node1 from2 step3 n4 out12 i13 best14 kv15 := (congrFun (hid_eq _) _).trans (T6 KL3 k3 h3 100000 l0 node1 from2 step3 n4 out12 i13 best14 kv15)
theorem T3 : ∀ (n : Nat), ∀ l0 node1 from2 step3 n4 out12 i13, it3 (hid ct2) n (fr3 l0 node1 from2 step3 n4 out12 i13) = f3 n l0 node1 from2 step3 n4 out12 i13 := by
  intro n
  induction n with
  | zero => intros; rfl
  | succ n ih =>
    intro l0 node1 from2 step3 n4 out12 i13
    refine (P3 l0 node1 from2 step3 n4 out12 i13 (hid ct2) (it3 (hid ct2) n)).trans ?_
    show _ = sh3 l0 node1 from2 step3 n4 out12 i13 f2 (f6 (f3 n) 100000)
    simp only [T2, H6 (it3 (hid ct2) n) (f3 n) ih]
theorem H3 (l0 : List Msg) (node1 : List UInt8) (from2 : Int) (step3 : Int) (n4 : Int) (out12 : List Int) (i13 : Int) : hid (it3 (hid ct2) 100000) (fr3 l0 node1 from2 step3 n4 out12 i13) = f3 100000 l0 node1 from2 step3 n4 out12 i13 := (congrFun (hid_eq _) _).trans (T3 100000 l0 node1 from2 step3 n4 out12 i13)
theorem T1 (l0 : List Msg) (node1 : List UInt8) (from2 : Int) (step3 : Int) (n4 : Int) : (hid ct1) (fr1 l0 node1 from2 step3 n4) = f1 l0 node1 from2 step3 n4 := by
  refine (congrFun (hid_eq _) _).trans <| (P1 l0 node1 from2 step3 n4).trans ?_
  show _ = sh1 l0 node1 from2 step3 n4 (f3 100000)
  simp only [H3]
theorem T0 (l : List Msg) (node : List UInt8) (from_ : Int) (step : Int) (n : Int) : exec X bd (.seq none .d (.seq none .d (.seq (some nm1) .d (.seq none .d (.seq (some nm2) (.seq none .d (.block (.loop nm3 (.seq none .d (.seq (some nm4) (.block (.seq none .d (.seq (some nm5) (.seq none .d (.block (.loop nm6 (.seq none .d (.seq (some nm7) .d .d))))) .d))) .d))))) .d))))) (fr0 l node from_ step n) RR (fun _ _ => none) RR = f0 l node from_ step n := by
  refine (P0 l node from_ step n).trans ?_
  show _ = sh0 l node from_ step n f1
  simp only [T1]
theorem run (l : List Msg) (node : List UInt8) (from_ : Int) (step : Int) (n : Int) : runFn X bd (.seq none .d (.seq none .d (.seq (some nm1) .d (.seq none .d (.seq (some nm2) (.seq none .d (.block (.loop nm3 (.seq none .d (.seq (some nm4) (.block (.seq none .d (.seq (some nm5) (.seq none .d (.block (.loop nm6 (.seq none .d (.seq (some nm7) .d .d))))) .d))) .d))))) .d))))) nmR [10, 11] [10] [(.lst .msg l), (.str node), (.int .i64 from_), (.int .i64 step), (.int .i64 n)] = f0 l node from_ step n := T0 l node from_ step n
theorem inner (l : List Msg) (hl : l.length ≤ 10000) (node : List UInt8) (from_ step N : Int) (K : (List Msg) → (List UInt8) → Int → Int → Int → (List Int) → Int → R) (out : List Int) (i : Nat) (t : Int) (ht : IntKind.wrap .i64 (from_ + IntKind.wrap .i64 ((i : Int) * step)) = t) :
    ∀ (n k : Nat) (b : Int), l.length < n + k → k ≤ l.length → BestOk l node t k b → ∃ b', BestOk l node t l.length b' ∧ f6 K n l node from_ step N out (i : Int) b (k : Int) = f5 K l node from_ step N out (i : Int) b' := by
  intro n
  induction n with
  | zero => intro k b h1 h2; omega
  | succ n ih =>
    intro k b h1 h2 hb
    by_cases hk : k < l.length
    · have nxt : ∀ b', BestOk l node t (k + 1) b' → ∃ b'', BestOk l node t l.length b'' ∧ f7 K (f6 K n) l node from_ step N out (i : Int) b' (k : Int) = f5 K l node from_ step N out (i : Int) b'' := fun b' hb' => by
        obtain ⟨b'', h3, h4⟩ := ih (k + 1) b' (by omega) hk hb'
        refine ⟨b'', h3, ?_⟩
        show f6 K n l node from_ step N out (i : Int) b' (IntKind.wrap .i64 ((k : Int) + 1)) = _
        rw [wrapS k (by omega)]
        exact h4
      have hmem : ∀ m, m ∈ l.take (k + 1) ↔ m ∈ l.take k ∨ m = l[k] := fun m => by
        rw [take_lt hk, List.mem_append, List.mem_singleton]
      have stay : ¬ Qual node t l[k] → BestOk l node t (k + 1) b := fun hq => by
        rcases hb with ⟨e, h⟩ | ⟨j, hj, e, h, h'⟩
        · exact .inl ⟨e, fun m hm => by rcases (hmem m).1 hm with hm | rfl; exact h m hm; exact hq⟩
        · exact .inr ⟨j, hj, e, h, fun m hm hm2 => by rcases (hmem m).1 hm with hm | rfl; exact h' m hm hm2; exact absurd hm2 hq⟩
      show ∃ b', _ ∧ sh6 l node from_ step N out (i : Int) b (k : Int) (f5 K) (f7 K (f6 K n)) = _
      unfold sh6
      rw [iltT (show (k : Int) < Int.ofNat l.length by simp; omega), inbT hk, toNat_nat, getD_lt hk, ht]
      simp only [condT, chkT]
      cases hn : (l[k].nd == node)
      · exact nxt b (stay fun hq => by rw [hq.1] at hn; simp at hn)
      cases ha : ile l[k].at_ t
      · exact nxt b (stay fun hq => ileN ha hq.2)
      have hq : Qual node t l[k] := ⟨by simpa using hn, ileI ha⟩
      rw [condT, condT]
      rcases hb with ⟨rfl, h⟩ | ⟨j, hj, rfl, h, h'⟩
      · exact nxt (k : Int) (.inr ⟨k, hk, rfl, hq, fun m hm hm2 => by rcases (hmem m).1 hm with hm | rfl; exact absurd hm2 (h m hm); exact before_irrefl _⟩)
      · rw [iltF (show ¬ (j : Int) < 0 by omega), condF, inbT hj, toNat_nat, getD_lt hj, chkT]
        cases hbf : beforeB l[j] l[k]
        · exact nxt (j : Int) (.inr ⟨j, hj, rfl, h, fun m hm hm2 => by rcases (hmem m).1 hm with hm | rfl; exact h' m hm hm2; exact hbf⟩)
        · refine nxt (k : Int) (.inr ⟨k, hk, rfl, hq, fun m hm hm2 => ?_⟩)
          rcases (hmem m).1 hm with hm | rfl
          · cases h5 : beforeB l[k] m
            · rfl
            · have := before_trans hbf h5
              rw [h' m hm hm2] at this; cases this
          · exact before_irrefl _
    · have : k = l.length := by omega
      subst this
      refine ⟨b, hb, ?_⟩
      show sh6 l node from_ step N out (i : Int) b (l.length : Int) (f5 K) (f7 K (f6 K n)) = _
      unfold sh6
      rw [iltF (by simp)]
      rfl
theorem best_in {l : List Msg} {node : List UInt8} {t : Int} {k : Nat} {b : Int} (h : BestOk l node t k b) : ilt b 0 = true ∨ inb b l.length = true := by
  rcases h with ⟨rfl, _⟩ | ⟨j, hj, rfl, _⟩
  · exact .inl rfl
  · exact .inr (inbT hj)
theorem outer (l : List Msg) (hv : keysB l = true) (hl : l.length ≤ 10000) (node : List UInt8) (from_ step : Int) (N : Nat) (hN : N ≤ 10000) (hf : timeB from_ = true) (h1 : 1 ≤ step) (h2 : step ≤ 86400) :
    ∀ (n i : Nat) (out : List Int), N < n + i → i ≤ N → out.length = i → f3 n l node from_ step (N : Int) out (i : Int) = f2 (out ++ levels (ofL l node) from_ step i (N - i)) := by
  intro n
  induction n with
  | zero => intro i out h3 h4; omega
  | succ n ih =>
    intro i out h3 h4 h5
    show sh3 l node from_ step (N : Int) out (i : Int) f2 (f6 (f3 n) 100000) = _
    unfold sh3
    by_cases hi : i < N
    · have ht := time_wrap (i := i) (n := 10000) hf h1 h2 (by omega) (Int.le_refl _)
      obtain ⟨b, hb, e⟩ := inner l hl node from_ step N (f3 n) out i _ ht 100000 0 (-1) (by omega) (by omega) (.inl ⟨rfl, fun m hm => by simp at hm⟩)
      have hlev := best_level hv hb
      have hcap : ∀ x : Int, (nle ((List.length out + List.length ([x] : List Int)) * 8) 140737488355328 && nle (List.length out + List.length ([x] : List Int)) 9223372036854775807) = true := fun x => Bool.and_eq_true_iff.2 ⟨nleT (by simp; omega), nleT (by simp; omega)⟩
      have go : ∀ x : Int, x = lvOf (ofL l node) (cntZ (from_ + (i : Int) * step) (ofL l node)) → f4 (f3 n) l node from_ step (N : Int) (out ++ [x]) (i : Int) = f2 (out ++ levels (ofL l node) from_ step i (N - i)) := fun x hx => by
        show f3 n l node from_ step (N : Int) (out ++ [x]) (IntKind.wrap .i64 ((i : Int) + 1)) = _
        rw [wrapS i (by omega), ih (i + 1) _ (by omega) hi (by simp [h5])]
        congr 1
        rw [show N - i = (N - (i + 1)) + 1 by omega, hx]
        simp only [levels, List.range'_succ, List.map_cons, List.append_assoc, List.singleton_append]
      rw [iltT (show (i : Int) < (N : Int) by omega), condT]
      refine e.trans ?_
      show sh5 l node from_ step (N : Int) out (i : Int) b (f4 (f3 n)) = _
      unfold sh5
      rw [hcap, hcap]
      cases hb0 : ilt b 0
      · rw [hb0] at hlev
        have := (best_in hb).resolve_left (by rw [hb0]; simp)
        rw [this]
        exact go _ hlev.symm
      · rw [hb0] at hlev
        exact go _ hlev.symm
    · have : i = N := by omega
      subst this
      rw [iltF (by omega), condF, Nat.sub_self]
      simp [levels]
theorem f0_eq (l : List Msg) (node : List UInt8) (from_ step n : Int) : f0 l node from_ step n = some (.tup [.ful 0, .int .i64 (serE l node from_ step n)], [(0, .rows .int (serL l node from_ step n))]) := by
  show sh0 l node from_ step n f1 = _
  unfold sh0 serL serE
  cases hvn : validB l && nameB node
  · rfl
  simp only [cond_true, Bool.not_true, cond_false]
  rw [show ((0 : Int) != (0 : Int)) = false from rfl, condF]
  by_cases s1 : 1 ≤ step
  rotate_left
  · rw [iltT (show step < 1 by omega), ileF s1]; rfl
  by_cases s2 : step ≤ 86400
  rotate_left
  · rw [iltF (show ¬ step < 1 by omega), iltT (show (86400 : Int) < step by omega), ileT s1, ileF s2]; rfl
  rw [iltF (show ¬ step < 1 by omega), iltF (show ¬ (86400 : Int) < step by omega), ileT s1, ileT s2]
  by_cases n1 : 0 ≤ n
  rotate_left
  · rw [iltT (show n < 0 by omega), ileF n1]; rfl
  by_cases n2 : n ≤ 10000
  rotate_left
  · rw [iltF (show ¬ n < 0 by omega), iltT (show (10000 : Int) < n by omega), ileT n1, ileF n2]; rfl
  rw [iltF (show ¬ n < 0 by omega), iltF (show ¬ (10000 : Int) < n by omega), ileT n1, ileT n2]
  cases hf : timeB from_
  · rfl
  simp only [Bool.and_eq_true] at hvn
  obtain ⟨N, rfl⟩ := Int.eq_ofNat_of_zero_le n1
  rw [time_wrap (i := N) (n := 10000) hf s1 s2 n2 (Int.le_refl _)]
  cases ht : timeB (from_ + (N : Int) * step)
  · rfl
  obtain ⟨hk, hlen⟩ := valid_keys hvn.1
  exact (outer l hk hlen node from_ step N (by omega) hf s1 s2 100000 0 [] (by omega) (by omega) rfl).trans rfl
theorem ok : CtxOk Try.prog X := ctxOk tab (by
  intro p hp
  simp only [List.mem_cons, List.not_mem_nil, or_false] at hp
  rcases hp with rfl | rfl | rfl
  · exact rbefore.spOk
  · exact rgiven.spOk
  · exact rtime.spOk) (by
  intro p hp
  cases hp)
theorem okM : MOk Try.prog X := fun g sp h => by cases h
theorem spec (l : List Msg) (node : List UInt8) (from_ : Int) (step : Int) (n : Int) : CallSpec Try.prog E 31 [(.lst .msg l), (.str node), (.int .i64 from_), (.int .i64 step), (.int .i64 n)] (.tup [(.ful 0), (.int .i64 (serE l node from_ step n))]) [(0, .rows .int (serL l node from_ step n))] :=
  runFn_sound ok okM Try.call31 Try.func31 (by kernel_rfl) (by kernel_rfl) (by kernel_rfl) (by show 5 ≤ 112; decide) (by decide) (by rfl) ((run l node from_ step n).trans (f0_eq l node from_ step n))
noncomputable def sp : Sp U El := fun args k => match args with
  | [.lst .msg l, .str node, .int .i64 from_, .int .i64 step, .int .i64 n] => k (.tup [(.ful 0), (.int .i64 (serE l node from_ step n))]) [(0, .rows .int (serL l node from_ step n))]
  | _ => none
theorem spOk : SpOk Try.prog E 31 sp where
  det := fun vs => by
    unfold sp
    split
    · exact ⟨some (_, _), fun _ => rfl⟩
    · exact ⟨none, fun _ => rfl⟩
  ok := fun vs k r h => by
    unfold sp at h
    split at h
    · exact ⟨_, _, spec _ _ _ _ _, h⟩
    · cases h
end rseries
end Go.Proofs.Ytkeplmpcijigaaa
