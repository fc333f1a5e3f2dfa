/- The feed of the document. -/
import Derived.Test.YtkeplmpcijigaaaVC
namespace Go.Proofs.Ytkeplmpcijigaaa
set_option linter.unusedSectionVars false
set_option linter.unusedSimpArgs false
set_option linter.unusedVariables false
set_option maxRecDepth 100000

noncomputable def withL (m : Msg) : List Msg → List Msg
  | [] => [m]
  | x :: l => bif beforeB x m then x :: withL m l else m :: x :: l
theorem withL_length (m : Msg) : ∀ l, (withL m l).length = l.length + 1 := by
  intro l
  induction l with
  | nil => rfl
  | cons x l ih =>
    simp only [withL]
    cases beforeB x m
    · rfl
    · simp [ih]
noncomputable def rmarkZ (f : RF) : Int := bif (Int.ofNat (List.length f.gt)) == (0 : Int) then -137438953472 else IntKind.wrap .i64 ((List.getD f.gt (f.gt.length - 1) d_msg).ar - f.dl)
noncomputable def rputE (f : RF) (m : Msg) : Int := bif !(rightB m) then 1 else bif ilt 0 (Int.ofNat (List.length f.gt)) && ilt m.ar (List.getD f.gt (f.gt.length - 1) d_msg).ar then 17 else bif hasB f.gt m.nd m.no then 10 else bif ile (10000 : Int) (Int.ofNat (List.length f.gt)) then 4 else 0
noncomputable def rputF (f : RF) (m : Msg) : RF := ⟨f.dl,
  bif rputE f m == 0 then f.gt ++ [m] else f.gt,
  bif rputE f m == 0 then (bif ilt m.at_ (rmarkZ f) then f.wt else withL m f.wt) else f.wt,
  bif rputE f m == 0 then (bif ilt m.at_ (rmarkZ f) then f.lt ++ [m] else f.lt) else f.lt⟩
noncomputable def preN (z : Int) (l : List Msg) : Nat := (l.takeWhile fun m => ilt m.at_ z).length
noncomputable def rreadyL (f : RF) : List Msg := f.wt.take (preN (rmarkZ f) f.wt)
noncomputable def rreadyF (f : RF) : RF := ⟨f.dl, f.gt, f.wt.drop (preN (rmarkZ f) f.wt), f.lt⟩
noncomputable def rfOk (f : RF) : Bool := nle f.gt.length 80000 && (nle f.wt.length 80000 && nle f.lt.length 80000)

namespace rwith
noncomputable def bd : Code := (Try.f37.body).getD .skip
noncomputable def X : Ctx U El := ⟨E, tds, zeros, eqs, specOf [(20, rbefore.sp)], 100000, 37, dspecOf [], fun _ => none⟩
noncomputable def nmR : Norm U := ⟨[], [4], [], [(4, .msg)], [], [], []⟩
noncomputable def RR : Kont U El := fun st => normK nmR st (retFin [4] [])
noncomputable def nm1 : Norm U := ⟨[(5, .msg)], [0, 3, 5, 6], [5, 3], [], [], [], []⟩
noncomputable def nm2 : Norm U := ⟨[(5, .msg)], [0, 3, 5, 6], [5, 3], [], [], [], []⟩
noncomputable def nm3 : Norm U := ⟨[(5, .msg)], [0, 3, 5, 6], [5, 3], [], [], [], []⟩
noncomputable def fr0 (l : List Msg) (m : Msg) : St U El := ⟨[(0, (.lst .msg l)), (1, (.agg [(.str m.nd), (.int .i64 m.no), (.int .i64 m.at_), (.int .i64 m.ar), (.int .i64 m.lv)]))], []⟩
noncomputable def fr1 (l0 : List Msg) (out5 : List Msg) (i6 : Int) (b3 : Msg) : St U El := ⟨[(0, (.lst .msg l0)), (3, (.ptr 3 0)), (5, (.ful 5)), (6, (.int .i64 i6))], [(5, (.rows .msg out5)), (3, (.box 0 [(.str b3.nd), (.int .i64 b3.no), (.int .i64 b3.at_), (.int .i64 b3.ar), (.int .i64 b3.lv)]))]⟩
noncomputable def fr2 (l0 : List Msg) (out5 : List Msg) (i6 : Int) (b3 : Msg) : St U El := ⟨[(0, (.lst .msg l0)), (3, (.ptr 3 0)), (5, (.ful 5)), (6, (.int .i64 i6))], [(5, (.rows .msg out5)), (3, (.box 0 [(.str b3.nd), (.int .i64 b3.no), (.int .i64 b3.at_), (.int .i64 b3.ar), (.int .i64 b3.lv)]))]⟩
noncomputable def fr3 (l0 : List Msg) (out5 : List Msg) (i6 : Int) (b3 : Msg) : St U El := ⟨[(0, (.lst .msg l0)), (3, (.ptr 3 0)), (5, (.ful 5)), (6, (.int .i64 i6))], [(5, (.rows .msg out5)), (3, (.box 0 [(.str b3.nd), (.int .i64 b3.no), (.int .i64 b3.at_), (.int .i64 b3.ar), (.int .i64 b3.lv)]))]⟩
noncomputable def sh0 (l : List Msg) (m : Msg) (k2 : (List Msg) → (List Msg) → Int → Msg → R) : R :=
  k2 l ([] : List Msg) (0 : Int) m
noncomputable def sh1 (l0 : List Msg) (out5 : List Msg) (i6 : Int) (b3 : Msg) : R :=
  chk (nle ((List.length out5 + List.length ([b3] : List Msg)) * 48) 140737488355328 && nle (List.length out5 + List.length ([b3] : List Msg)) 9223372036854775807) (chk (ile 0 i6 && ile i6 (Int.ofNat (List.length l0)) && ile (Int.ofNat (List.length l0)) (Int.ofNat (List.length l0))) (chk (nle ((List.length (out5 ++ ([b3] : List Msg)) + List.length (sub l0 i6 (Int.ofNat (List.length l0)))) * 48) 140737488355328 && nle (List.length (out5 ++ ([b3] : List Msg)) + List.length (sub l0 i6 (Int.ofNat (List.length l0)))) 9223372036854775807) (some ((.lst .msg ((out5 ++ ([b3] : List Msg)) ++ (sub l0 i6 (Int.ofNat (List.length l0))))), []))))
noncomputable def sh2 (l0 : List Msg) (out5 : List Msg) (i6 : Int) (b3 : Msg) (k1 : (List Msg) → (List Msg) → Int → Msg → R) (k3 : (List Msg) → (List Msg) → Int → Msg → R) : R :=
  condB (ilt i6 (Int.ofNat (List.length l0))) (chk (inb i6 (List.length l0)) (condB (beforeB (List.getD l0 (Int.toNat i6) d_msg) b3) (k3 l0 out5 i6 b3) (k1 l0 out5 i6 b3))) (k1 l0 out5 i6 b3)
noncomputable def sh3 (l0 : List Msg) (out5 : List Msg) (i6 : Int) (b3 : Msg) (k2 : (List Msg) → (List Msg) → Int → Msg → R) : R :=
  chk (inb i6 (List.length l0)) (chk (nle ((List.length out5 + List.length ([(List.getD l0 (Int.toNat i6) d_msg)] : List Msg)) * 48) 140737488355328 && nle (List.length out5 + List.length ([(List.getD l0 (Int.toNat i6) d_msg)] : List Msg)) 9223372036854775807) (k2 l0 (out5 ++ ([(List.getD l0 (Int.toNat i6) d_msg)] : List Msg)) (IntKind.wrap .i64 (i6 + (1 : Int))) b3))
noncomputable def it2 (Kb1 : Kont U El) (n : Nat) : Kont U El := iter nm2 (fun st' K' => exec X (cdp [1, 1, 1, 0, 0, 0] bd) (.seq (some nm3) .d .d) st' K' (Eblk 0 (cutK nm1 Kb1) (fun _ _ => none)) RR) n
noncomputable def ct1 : Kont U El := fun st => exec X (cdp [1, 1, 1, 1] bd) .d st RR (fun _ _ => none) RR
noncomputable def ct3 (Kb1 : Kont U El) (Kb2 : Kont U El) : Kont U El := fun st => exec X (cdp [1, 1, 1, 0, 0, 0, 1] bd) .d st (cutK nm2 Kb2) (Eblk 0 (cutK nm1 Kb1) (fun _ _ => none)) RR
theorem P0 (l : List Msg) (m : Msg) : exec X (cdp [] bd) (.seq none .d (.seq none .d (.seq none .d (.seq (some nm1) (.block (.loop nm2 (.seq (some nm3) .d .d))) .d)))) (fr0 l m) RR (fun _ _ => none) RR = sh0 l m (fun y0 y1 y2 y3 => (hid (it2 (hid ct1) 100000)) (fr2 y0 y1 y2 y3)) := by kernel_rfl
theorem P1 (l0 : List Msg) (out5 : List Msg) (i6 : Int) (b3 : Msg) : exec X (cdp [1, 1, 1, 1] bd) .d (fr1 l0 out5 i6 b3) RR (fun _ _ => none) RR = sh1 l0 out5 i6 b3 := by kernel_rfl
theorem P2 (l0 : List Msg) (out5 : List Msg) (i6 : Int) (b3 : Msg) (Kb1 : Kont U El) (Kb2 : Kont U El) : exec X (cdp [1, 1, 1, 0, 0, 0] bd) (.seq (some nm3) .d .d) (fr2 l0 out5 i6 b3) (cutK nm2 Kb2) (Eblk 0 (cutK nm1 Kb1) (fun _ _ => none)) RR = sh2 l0 out5 i6 b3 (fun y0 y1 y2 y3 => Kb1 (fr1 y0 y1 y2 y3)) (fun y0 y1 y2 y3 => (hid (ct3 Kb1 Kb2)) (fr3 y0 y1 y2 y3)) := by kernel_rfl
theorem P3 (l0 : List Msg) (out5 : List Msg) (i6 : Int) (b3 : Msg) (Kb1 : Kont U El) (Kb2 : Kont U El) : exec X (cdp [1, 1, 1, 0, 0, 0, 1] bd) .d (fr3 l0 out5 i6 b3) (cutK nm2 Kb2) (Eblk 0 (cutK nm1 Kb1) (fun _ _ => none)) RR = sh3 l0 out5 i6 b3 (fun y0 y1 y2 y3 => Kb2 (fr2 y0 y1 y2 y3)) := by kernel_rfl
noncomputable def f1 (l0 : List Msg) (out5 : List Msg) (i6 : Int) (b3 : Msg) : R := sh1 l0 out5 i6 b3
noncomputable def f3 (k2 : (List Msg) → (List Msg) → Int → Msg → R) (l0 : List Msg) (out5 : List Msg) (i6 : Int) (b3 : Msg) : R := sh3 l0 out5 i6 b3 k2
noncomputable def f2 : Nat → (List Msg) → (List Msg) → Int → Msg → R
  | 0 => fun _ _ _ _ => none
  | n + 1 => fun l0 out5 i6 b3 => sh2 l0 out5 i6 b3 f1 (f3 (f2 n))
noncomputable def f0 (l : List Msg) (m : Msg) : R := sh0 l m (f2 100000)
theorem T1 (l0 : List Msg) (out5 : List Msg) (i6 : Int) (b3 : Msg) : (hid ct1) (fr1 l0 out5 i6 b3) = f1 l0 out5 i6 b3 := by
  refine (congrFun (hid_eq _) _).trans <| (P1 l0 out5 i6 b3).trans ?_
  show _ = sh1 l0 out5 i6 b3
  rfl
theorem T3 (KL2 : Kont U El) (k2 : (List Msg) → (List Msg) → Int → Msg → R) (h2 : ∀ l0 out5 i6 b3, KL2 (fr2 l0 out5 i6 b3) = k2 l0 out5 i6 b3) (l0 : List Msg) (out5 : List Msg) (i6 : Int) (b3 : Msg) : (hid (ct3 (hid ct1) KL2)) (fr3 l0 out5 i6 b3) = f3 k2 l0 out5 i6 b3 := by
  refine (congrFun (hid_eq _) _).trans <| (P3 l0 out5 i6 b3 (hid ct1) KL2).trans ?_
  show _ = sh3 l0 out5 i6 b3 k2
  simp only [h2]
theorem T2 : ∀ (n : Nat), ∀ l0 out5 i6 b3, it2 (hid ct1) n (fr2 l0 out5 i6 b3) = f2 n l0 out5 i6 b3 := by
  intro n
  induction n with
  | zero => intros; rfl
  | succ n ih =>
    intro l0 out5 i6 b3
    refine (P2 l0 out5 i6 b3 (hid ct1) (it2 (hid ct1) n)).trans ?_
    show _ = sh2 l0 out5 i6 b3 f1 (f3 (f2 n))
    simp only [T1, T3 (it2 (hid ct1) n) (f2 n) ih]
theorem H2 (l0 : List Msg) (out5 : List Msg) (i6 : Int) (b3 : Msg) : hid (it2 (hid ct1) 100000) (fr2 l0 out5 i6 b3) = f2 100000 l0 out5 i6 b3 := (congrFun (hid_eq _) _).trans (T2 100000 l0 out5 i6 b3)
theorem T0 (l : List Msg) (m : Msg) : exec X bd (.seq none .d (.seq none .d (.seq none .d (.seq (some nm1) (.block (.loop nm2 (.seq (some nm3) .d .d))) .d)))) (fr0 l m) RR (fun _ _ => none) RR = f0 l m := by
  refine (P0 l m).trans ?_
  show _ = sh0 l m (f2 100000)
  simp only [H2]
theorem run (l : List Msg) (m : Msg) : runFn X bd (.seq none .d (.seq none .d (.seq none .d (.seq (some nm1) (.block (.loop nm2 (.seq (some nm3) .d .d))) .d)))) nmR [4] [] [(.lst .msg l), (.agg [(.str m.nd), (.int .i64 m.no), (.int .i64 m.at_), (.int .i64 m.ar), (.int .i64 m.lv)])] = f0 l m := T0 l m
theorem loop (l : List Msg) (m : Msg) (hl : l.length ≤ 90000) : ∀ (n i : Nat) (o : List Msg), l.length < n + i → i ≤ l.length → o.length ≤ i → f2 n l o (i : Int) m = some (.lst .msg (o ++ withL m (l.drop i)), []) := by
  have tail : ∀ (i : Nat) (o : List Msg), i ≤ l.length → o.length ≤ i → f1 l o (i : Int) m = some (.lst .msg (o ++ m :: l.drop i), []) := fun i o h1 h2 => by
    show sh1 l o (i : Int) m = _
    unfold sh1
    have hs : sub l (i : Int) (Int.ofNat l.length) = l.drop i := by
      unfold sub
      rw [toNat_nat, toNat_ofNat, List.take_of_length_le (by simp)]
    rw [hs, capT (by omega) (by simp), ileT (show (0 : Int) ≤ i by omega), ileT (show (i : Int) ≤ Int.ofNat l.length by simp; omega), ileT (Int.le_refl _), capT (by simp; omega) (by simp; omega)]
    simp only [Bool.and_self, chkT, List.append_assoc, List.singleton_append]
  intro n
  induction n with
  | zero => intro i o h1 h2; omega
  | succ n ih =>
    intro i o h1 h2 h3
    show sh2 l o (i : Int) m f1 (f3 (f2 n)) = _
    unfold sh2
    by_cases hi : i < l.length
    · rw [iltT (show (i : Int) < Int.ofNat l.length by simp; omega), inbT hi, toNat_nat, getD_lt hi]
      simp only [chkT, condT]
      show condB _ (sh3 l o (i : Int) m (f2 n)) _ = _
      unfold sh3
      rw [inbT hi, toNat_nat, getD_lt hi, capT (by omega) (by simp), wrapS i (by omega), chkT, chkT, ih (i + 1) _ (by omega) hi (by simp; omega), tail i o h2 h3]
      rw [drop_lt hi]
      simp only [withL]
      cases beforeB l[i] m
      · rfl
      · simp [condT]
    · have : i = l.length := by omega
      subst this
      rw [iltF (by simp), condF, tail _ o h2 h3, List.drop_length]
      rfl
theorem f0_eq (l : List Msg) (m : Msg) (h : nle (List.length l) 90000 = true) : f0 l m = some (.lst .msg (withL m l), []) := by
  have hl := nleI h
  exact (loop l m hl 100000 0 [] (by omega) (by omega) (by simp)).trans (by simp)
theorem ok : CtxOk Try.prog X := ctxOk tab (by
  intro p hp
  simp only [List.mem_cons, List.not_mem_nil, or_false] at hp
  rcases hp with rfl
  · exact rbefore.spOk) (by
  intro p hp
  cases hp)
theorem okM : MOk Try.prog X := fun g sp h => by cases h
theorem spec (l : List Msg) (m : Msg) (h : (nle (List.length l) 90000) = true) : CallSpec Try.prog E 37 [(.lst .msg l), (.agg [(.str m.nd), (.int .i64 m.no), (.int .i64 m.at_), (.int .i64 m.ar), (.int .i64 m.lv)])] (.lst .msg (withL m l)) [] :=
  runFn_sound ok okM Try.call37 Try.func37 (by kernel_rfl) (by kernel_rfl) (by kernel_rfl) (by show 2 ≤ 37; decide) (by decide) (by rfl) ((run l m).trans (f0_eq l m h))
noncomputable def sp : Sp U El := fun args k => match args with
  | [.lst .msg l, .agg [.str m_nd, .int .i64 m_no, .int .i64 m_at_, .int .i64 m_ar, .int .i64 m_lv]] => chk (nle (List.length l) 90000) (k (.lst .msg (withL (⟨m_nd, m_no, m_at_, m_ar, m_lv⟩ : Msg) l)) [])
  | _ => none
theorem spOk : SpOk Try.prog E 37 sp where
  det := fun vs => by
    unfold sp
    split
    · rename_i l m_nd m_no m_at_ m_ar m_lv
      cases hb : (nle (List.length l) 90000)
      · exact ⟨none, fun _ => rfl⟩
      · exact ⟨some (_, _), fun _ => rfl⟩
    · exact ⟨none, fun _ => rfl⟩
  ok := fun vs k r h => by
    unfold sp at h
    split at h
    · obtain ⟨h1, h2⟩ := chk_some h
      exact ⟨_, _, spec _ ⟨_, _, _, _, _⟩ h1, h2⟩
    · cases h
end rwith
theorem wrapP0 (n : Nat) (h0 : n ≠ 0) (h : n ≤ 1000000) : IntKind.wrap .i64 (Int.ofNat n - 1) = ((n - 1 : Nat) : Int) := wrapP n (by omega) h
theorem len0 {α : Type} (l : List α) : (Int.ofNat l.length == (0 : Int)) = (l.length == 0) := by
  cases l <;> rfl
namespace rmark
noncomputable def bd : Code := (Try.f15.body).getD .skip
noncomputable def X : Ctx U El := ⟨E, tds, zeros, eqs, specOf [], 100000, 19, dspecOf [], fun _ => none⟩
noncomputable def nmR : Norm U := ⟨[], [2], [], [], [], [], []⟩
noncomputable def RR : Kont U El := fun st => normK nmR st (retFin [2] [])
noncomputable def fr0 (f : RF) : St U El := ⟨[(0, (.agg [(.int .i64 f.dl), (.lst .msg f.gt), (.lst .msg f.wt), (.lst .msg f.lt)]))], []⟩
noncomputable def sh0 (f : RF) : R :=
  condB ((Int.ofNat (List.length f.gt)) == (0 : Int)) (some ((.int .i64 (-137438953472 : Int)), [])) (chk (inb (IntKind.wrap .i64 ((Int.ofNat (List.length f.gt)) - (1 : Int))) (List.length f.gt)) (some ((.int .i64 (IntKind.wrap .i64 ((List.getD f.gt (Int.toNat (IntKind.wrap .i64 ((Int.ofNat (List.length f.gt)) - (1 : Int)))) d_msg).ar - f.dl))), [])))
theorem P0 (f : RF) : exec X (cdp [] bd) .d (fr0 f) RR (fun _ _ => none) RR = sh0 f := by kernel_rfl
noncomputable def f0 (f : RF) : R := sh0 f
theorem T0 (f : RF) : exec X bd .d (fr0 f) RR (fun _ _ => none) RR = f0 f := by
  refine (P0 f).trans ?_
  show _ = sh0 f
  rfl
theorem run (f : RF) : runFn X bd .d nmR [2] [] [(.agg [(.int .i64 f.dl), (.lst .msg f.gt), (.lst .msg f.wt), (.lst .msg f.lt)])] = f0 f := T0 f
theorem f0_eq (f : RF) (h : nle (List.length (RF.gt f)) 90000 = true) : f0 f = some (.int .i64 (rmarkZ f), []) := by
  have hl := nleI h
  show sh0 f = _
  unfold sh0 rmarkZ
  rw [len0]
  cases hb : f.gt.length == 0
  · have hn : f.gt.length ≠ 0 := by simpa using hb
    rw [condF, wrapP0 _ hn (by omega), inbT (by omega), toNat_nat]
    rfl
  · rfl
theorem ok : CtxOk Try.prog X := ctxOk tab (by
  intro p hp
  cases hp) (by
  intro p hp
  cases hp)
theorem okM : MOk Try.prog X := fun g sp h => by cases h
theorem spec (f : RF) (h : (nle (List.length (RF.gt f)) 90000) = true) : CallSpec Try.prog E 15 [(.agg [(.int .i64 f.dl), (.lst .msg f.gt), (.lst .msg f.wt), (.lst .msg f.lt)])] (.int .i64 (rmarkZ f)) [] :=
  runFn_sound ok okM Try.call15 Try.func15 (by kernel_rfl) (by kernel_rfl) (by kernel_rfl) (by show 1 ≤ 19; decide) (by decide) (by rfl) ((run f).trans (f0_eq f h))
noncomputable def sp : Sp U El := fun args k => match args with
  | [.agg [.int .i64 f_dl, .lst .msg f_gt, .lst .msg f_wt, .lst .msg f_lt]] => chk (nle (List.length (RF.gt (⟨f_dl, f_gt, f_wt, f_lt⟩ : RF))) 90000) (k (.int .i64 (rmarkZ (⟨f_dl, f_gt, f_wt, f_lt⟩ : RF))) [])
  | _ => none
theorem spOk : SpOk Try.prog E 15 sp where
  det := fun vs => by
    unfold sp
    split
    · rename_i f_dl f_gt f_wt f_lt
      cases hb : (nle (List.length (RF.gt (⟨f_dl, f_gt, f_wt, f_lt⟩ : RF))) 90000)
      · exact ⟨none, fun _ => rfl⟩
      · exact ⟨some (_, _), fun _ => rfl⟩
    · exact ⟨none, fun _ => rfl⟩
  ok := fun vs k r h => by
    unfold sp at h
    split at h
    · obtain ⟨h1, h2⟩ := chk_some h
      exact ⟨_, _, spec ⟨_, _, _, _⟩ h1, h2⟩
    · cases h
end rmark
namespace rput
noncomputable def bd : Code := (Try.f12.body).getD .skip
noncomputable def X : Ctx U El := ⟨E, tds, zeros, eqs, specOf [(15, rmark.sp), (24, rhas.sp), (36, rright.sp), (37, rwith.sp)], 100000, 69, dspecOf [], fun _ => none⟩
noncomputable def nmR : Norm U := ⟨[], [69, 5], [], [], [], [(69, 1, .msg), (69, 2, .msg), (69, 3, .msg)], []⟩
noncomputable def RR : Kont U El := fun st => loadRes X 69 [(4, 31)] 69 st fun st => normK nmR st (retFin [69, 5] [])
noncomputable def nm1 : Norm U := ⟨[], [2, 3, 4], [2, 3, 4], [], [], [], [(2, 1, .msg), (2, 2, .msg), (2, 3, .msg)]⟩
noncomputable def nm2 : Norm U := ⟨[], [2, 3, 4], [2, 3, 4], [], [], [], [(2, 1, .msg), (2, 2, .msg), (2, 3, .msg)]⟩
noncomputable def fr0 (f : RF) (m : Msg) : St U El := ⟨[(0, (.agg [(.int .i64 f.dl), (.lst .msg f.gt), (.lst .msg f.wt), (.lst .msg f.lt)])), (1, (.agg [(.str m.nd), (.int .i64 m.no), (.int .i64 m.at_), (.int .i64 m.ar), (.int .i64 m.lv)]))], []⟩
noncomputable def fr1 (b2_0 : Int) (b2_1 : List Msg) (b2_2 : List Msg) (b2_3 : List Msg) (b3 : Msg) (b4_0 : Int) : St U El := ⟨[(2, (.ptr 2 0)), (3, (.ptr 3 0)), (4, (.ptr 4 0))], [(2, (.box 0 [(.int .i64 b2_0), (.lst .msg b2_1), (.lst .msg b2_2), (.lst .msg b2_3)])), (3, (.box 0 [(.str b3.nd), (.int .i64 b3.no), (.int .i64 b3.at_), (.int .i64 b3.ar), (.int .i64 b3.lv)])), (4, (.box 0 [(.int .i64 b4_0), .nils, .nils, .nils]))]⟩
noncomputable def fr2 (b2_0 : Int) (b2_1 : List Msg) (b2_2 : List Msg) (b2_3 : List Msg) (b3 : Msg) (b4_0 : Int) : St U El := ⟨[(2, (.ptr 2 0)), (3, (.ptr 3 0)), (4, (.ptr 4 0))], [(2, (.box 0 [(.int .i64 b2_0), (.lst .msg b2_1), (.lst .msg b2_2), (.lst .msg b2_3)])), (3, (.box 0 [(.str b3.nd), (.int .i64 b3.no), (.int .i64 b3.at_), (.int .i64 b3.ar), (.int .i64 b3.lv)])), (4, (.box 0 [(.int .i64 b4_0), .nils, .nils, .nils]))]⟩
noncomputable def sh0 (f : RF) (m : Msg) (k1 : Int → (List Msg) → (List Msg) → (List Msg) → Msg → Int → R) : R :=
  condB (!(rightB m)) (some ((.tup [(.agg [(.int .i64 f.dl), (.lst .msg f.gt), (.lst .msg f.wt), (.lst .msg f.lt)]), (.int .i64 (1 : Int))]), [])) (condB (ilt (0 : Int) (Int.ofNat (List.length f.gt))) (chk (inb (IntKind.wrap .i64 ((Int.ofNat (List.length f.gt)) - (1 : Int))) (List.length f.gt)) (condB (ilt m.ar ((List.getD f.gt (Int.toNat (IntKind.wrap .i64 ((Int.ofNat (List.length f.gt)) - (1 : Int)))) d_msg).ar)) (some ((.tup [(.agg [(.int .i64 f.dl), (.lst .msg f.gt), (.lst .msg f.wt), (.lst .msg f.lt)]), (.int .i64 (17 : Int))]), [])) (k1 f.dl f.gt f.wt f.lt m (0 : Int)))) (k1 f.dl f.gt f.wt f.lt m (0 : Int)))
noncomputable def sh1 (b2_0 : Int) (b2_1 : List Msg) (b2_2 : List Msg) (b2_3 : List Msg) (b3 : Msg) (b4_0 : Int) (k2 : Int → (List Msg) → (List Msg) → (List Msg) → Msg → Int → R) : R :=
  chk (nle (List.length b2_1) 90000) (condB (hasB b2_1 b3.nd b3.no) (some ((.tup [(.agg [(.int .i64 b2_0), (.lst .msg b2_1), (.lst .msg b2_2), (.lst .msg b2_3)]), (.int .i64 (10 : Int))]), [])) (condB (ile (10000 : Int) (Int.ofNat (List.length b2_1))) (some ((.tup [(.agg [(.int .i64 b2_0), (.lst .msg b2_1), (.lst .msg b2_2), (.lst .msg b2_3)]), (.int .i64 (4 : Int))]), [])) (chk (nle (List.length (RF.gt (⟨b2_0, b2_1, b2_2, b2_3⟩ : RF))) 90000) (condB (ilt b3.at_ (rmarkZ (⟨b2_0, b2_1, b2_2, b2_3⟩ : RF))) (chk (nle ((List.length ([] : List Msg) + List.length b2_3) * 48) 140737488355328 && nle (List.length ([] : List Msg) + List.length b2_3) 9223372036854775807) (chk (nle ((List.length (([] : List Msg) ++ b2_3) + List.length ([b3] : List Msg)) * 48) 140737488355328 && nle (List.length (([] : List Msg) ++ b2_3) + List.length ([b3] : List Msg)) 9223372036854775807) (k2 b2_0 b2_1 b2_2 ((([] : List Msg) ++ b2_3) ++ ([b3] : List Msg)) b3 b4_0))) (chk (nle (List.length b2_2) 90000) (k2 b2_0 b2_1 (withL b3 b2_2) b2_3 b3 b4_0))))))
noncomputable def sh2 (b2_0 : Int) (b2_1 : List Msg) (b2_2 : List Msg) (b2_3 : List Msg) (b3 : Msg) (b4_0 : Int) : R :=
  chk (nle ((List.length ([] : List Msg) + List.length b2_1) * 48) 140737488355328 && nle (List.length ([] : List Msg) + List.length b2_1) 9223372036854775807) (chk (nle ((List.length (([] : List Msg) ++ b2_1) + List.length ([b3] : List Msg)) * 48) 140737488355328 && nle (List.length (([] : List Msg) ++ b2_1) + List.length ([b3] : List Msg)) 9223372036854775807) (some ((.tup [(.agg [(.int .i64 b2_0), (.lst .msg ((([] : List Msg) ++ b2_1) ++ ([b3] : List Msg))), (.lst .msg b2_2), (.lst .msg b2_3)]), (.int .i64 (0 : Int))]), [])))
noncomputable def ct1 : Kont U El := fun st => exec X (cdp [1, 1, 1] bd) (.seq none .d (.seq none .d (.seq (some nm2) (.seq none .d (.cond (.region [(3, 47), (6, 50), (8, 2)]) .d)) (.seq none (.region [(3, 60), (6, 63), (8, 2)]) .d)))) st RR (fun _ _ => none) RR
noncomputable def ct2 : Kont U El := fun st => exec X (cdp [1, 1, 1, 1, 1, 1] bd) (.seq none (.region [(3, 60), (6, 63), (8, 2)]) .d) st RR (fun _ _ => none) RR
theorem P0 (f : RF) (m : Msg) : exec X (cdp [] bd) (.seq none .d (.seq none .d (.seq (some nm1) .d (.seq none .d (.seq none .d (.seq (some nm2) (.seq none .d (.cond (.region [(3, 47), (6, 50), (8, 2)]) .d)) (.seq none (.region [(3, 60), (6, 63), (8, 2)]) .d))))))) (fr0 f m) RR (fun _ _ => none) RR = sh0 f m (fun y0 y1 y2 y3 y4 y5 => (hid ct1) (fr1 y0 y1 y2 y3 y4 y5)) := by kernel_rfl
theorem P1 (b2_0 : Int) (b2_1 : List Msg) (b2_2 : List Msg) (b2_3 : List Msg) (b3 : Msg) (b4_0 : Int) : exec X (cdp [1, 1, 1] bd) (.seq none .d (.seq none .d (.seq (some nm2) (.seq none .d (.cond (.region [(3, 47), (6, 50), (8, 2)]) .d)) (.seq none (.region [(3, 60), (6, 63), (8, 2)]) .d)))) (fr1 b2_0 b2_1 b2_2 b2_3 b3 b4_0) RR (fun _ _ => none) RR = sh1 b2_0 b2_1 b2_2 b2_3 b3 b4_0 (fun y0 y1 y2 y3 y4 y5 => (hid ct2) (fr2 y0 y1 y2 y3 y4 y5)) := by kernel_rfl
theorem P2 (b2_0 : Int) (b2_1 : List Msg) (b2_2 : List Msg) (b2_3 : List Msg) (b3 : Msg) (b4_0 : Int) : exec X (cdp [1, 1, 1, 1, 1, 1] bd) (.seq none (.region [(3, 60), (6, 63), (8, 2)]) .d) (fr2 b2_0 b2_1 b2_2 b2_3 b3 b4_0) RR (fun _ _ => none) RR = sh2 b2_0 b2_1 b2_2 b2_3 b3 b4_0 := by kernel_rfl
noncomputable def f2 (b2_0 : Int) (b2_1 : List Msg) (b2_2 : List Msg) (b2_3 : List Msg) (b3 : Msg) (b4_0 : Int) : R := sh2 b2_0 b2_1 b2_2 b2_3 b3 b4_0
noncomputable def f1 (b2_0 : Int) (b2_1 : List Msg) (b2_2 : List Msg) (b2_3 : List Msg) (b3 : Msg) (b4_0 : Int) : R := sh1 b2_0 b2_1 b2_2 b2_3 b3 b4_0 f2
noncomputable def f0 (f : RF) (m : Msg) : R := sh0 f m f1
theorem T2 (b2_0 : Int) (b2_1 : List Msg) (b2_2 : List Msg) (b2_3 : List Msg) (b3 : Msg) (b4_0 : Int) : (hid ct2) (fr2 b2_0 b2_1 b2_2 b2_3 b3 b4_0) = f2 b2_0 b2_1 b2_2 b2_3 b3 b4_0 := by
  refine (congrFun (hid_eq _) _).trans <| (P2 b2_0 b2_1 b2_2 b2_3 b3 b4_0).trans ?_
  show _ = sh2 b2_0 b2_1 b2_2 b2_3 b3 b4_0
  rfl
theorem T1 (b2_0 : Int) (b2_1 : List Msg) (b2_2 : List Msg) (b2_3 : List Msg) (b3 : Msg) (b4_0 : Int) : (hid ct1) (fr1 b2_0 b2_1 b2_2 b2_3 b3 b4_0) = f1 b2_0 b2_1 b2_2 b2_3 b3 b4_0 := by
  refine (congrFun (hid_eq _) _).trans <| (P1 b2_0 b2_1 b2_2 b2_3 b3 b4_0).trans ?_
  show _ = sh1 b2_0 b2_1 b2_2 b2_3 b3 b4_0 f2
  simp only [T2]
theorem T0 (f : RF) (m : Msg) : exec X bd (.seq none .d (.seq none .d (.seq (some nm1) .d (.seq none .d (.seq none .d (.seq (some nm2) (.seq none .d (.cond (.region [(3, 47), (6, 50), (8, 2)]) .d)) (.seq none (.region [(3, 60), (6, 63), (8, 2)]) .d))))))) (fr0 f m) RR (fun _ _ => none) RR = f0 f m := by
  refine (P0 f m).trans ?_
  show _ = sh0 f m f1
  simp only [T1]
theorem run (f : RF) (m : Msg) : runFnC X bd (.seq none .d (.seq none .d (.seq (some nm1) .d (.seq none .d (.seq none .d (.seq (some nm2) (.seq none .d (.cond (.region [(3, 47), (6, 50), (8, 2)]) .d)) (.seq none (.region [(3, 60), (6, 63), (8, 2)]) .d))))))) nmR [(4, 31)] [69, 5] [] [(.agg [(.int .i64 f.dl), (.lst .msg f.gt), (.lst .msg f.wt), (.lst .msg f.lt)]), (.agg [(.str m.nd), (.int .i64 m.no), (.int .i64 m.at_), (.int .i64 m.ar), (.int .i64 m.lv)])] = f0 f m := T0 f m
theorem mid (f : RF) (m : Msg) (h1 : f.gt.length ≤ 80000) (h2 : f.wt.length ≤ 80000) (h3 : f.lt.length ≤ 80000) : f1 f.dl f.gt f.wt f.lt m 0 = some (.tup [.agg [.int .i64 f.dl, .lst .msg (bif (!hasB f.gt m.nd m.no) && (!(ile (10000 : Int) (Int.ofNat (List.length f.gt)))) then f.gt ++ [m] else f.gt), .lst .msg (bif (!hasB f.gt m.nd m.no) && (!(ile (10000 : Int) (Int.ofNat (List.length f.gt)))) then (bif ilt m.at_ (rmarkZ f) then f.wt else withL m f.wt) else f.wt), .lst .msg (bif (!hasB f.gt m.nd m.no) && (!(ile (10000 : Int) (Int.ofNat (List.length f.gt)))) then (bif ilt m.at_ (rmarkZ f) then f.lt ++ [m] else f.lt) else f.lt)], .int .i64 (bif hasB f.gt m.nd m.no then 10 else bif ile (10000 : Int) (Int.ofNat (List.length f.gt)) then 4 else 0)], []) := by
  show sh1 f.dl f.gt f.wt f.lt m 0 f2 = _
  unfold sh1
  rw [nleT (show f.gt.length ≤ 90000 by omega), nleT (show f.wt.length ≤ 90000 by omega)]
  cases hasB f.gt m.nd m.no
  rotate_left
  · rfl
  cases ile (10000 : Int) (Int.ofNat (List.length f.gt))
  rotate_left
  · rfl
  rw [show (⟨f.dl, f.gt, f.wt, f.lt⟩ : RF) = f from rfl]
  have k2 : ∀ a b c, f2 a f.gt b c m 0 = some (.tup [.agg [.int .i64 a, .lst .msg (f.gt ++ [m]), .lst .msg b, .lst .msg c], .int .i64 0], []) := fun a b c => by
    show sh2 a f.gt b c m 0 = _
    unfold sh2
    rw [capT (by simp) (by omega), capT (by simp; omega) (by simp)]
    rfl
  rw [capT (by simp) (by omega), capT (by simp; omega) (by simp)]
  simp only [chkT, condF]
  cases ilt m.at_ (rmarkZ f)
  · rw [condF, k2]; rfl
  · rw [condT, k2]; rfl
theorem f0_eq (f : RF) (m : Msg) (h : rfOk f = true) : f0 f m = some (.tup [.agg [.int .i64 (rputF f m).dl, .lst .msg (rputF f m).gt, .lst .msg (rputF f m).wt, .lst .msg (rputF f m).lt], .int .i64 (rputE f m)], []) := by
  simp only [rfOk, Bool.and_eq_true] at h
  have h1 := nleI h.1
  have h2 := nleI h.2.1
  have h3 := nleI h.2.2
  show sh0 f m f1 = _
  simp only [rputF, rputE]
  unfold sh0
  have hm := mid f m h1 h2 h3
  cases rightB m
  · rfl
  by_cases hn : f.gt.length = 0
  · rw [iltF (show ¬ (0 : Int) < Int.ofNat f.gt.length by simp [hn])]
    simp only [Bool.not_true, condF, hm, Bool.false_and, cond_false]
    cases hasB f.gt m.nd m.no <;> cases ile (10000 : Int) (Int.ofNat (List.length f.gt)) <;> rfl
  · rw [iltT (show (0 : Int) < Int.ofNat f.gt.length by simp; omega), wrapP0 _ hn (by omega), inbT (by omega), toNat_nat]
    simp only [Bool.not_true, condF, condT, chkT, hm, Bool.true_and, cond_false]
    cases ilt m.ar (List.getD f.gt (f.gt.length - 1) d_msg).ar
    · simp only [condF, cond_false]
      cases hasB f.gt m.nd m.no <;> cases ile (10000 : Int) (Int.ofNat (List.length f.gt)) <;> rfl
    · rfl
theorem ok : CtxOk Try.prog X := ctxOk tab (by
  intro p hp
  simp only [List.mem_cons, List.not_mem_nil, or_false] at hp
  rcases hp with rfl | rfl | rfl | rfl
  · exact rmark.spOk
  · exact rhas.spOk
  · exact rright.spOk
  · exact rwith.spOk) (by
  intro p hp
  cases hp)
theorem okM : MOk Try.prog X := fun g sp h => by cases h
theorem spec (f : RF) (m : Msg) (h : (rfOk f) = true) : CallSpec Try.prog E 12 [(.agg [(.int .i64 f.dl), (.lst .msg f.gt), (.lst .msg f.wt), (.lst .msg f.lt)]), (.agg [(.str m.nd), (.int .i64 m.no), (.int .i64 m.at_), (.int .i64 m.ar), (.int .i64 m.lv)])] (.tup [(.agg [(.int .i64 ((rputF f m).dl)), (.lst .msg ((rputF f m).gt)), (.lst .msg ((rputF f m).wt)), (.lst .msg ((rputF f m).lt))]), (.int .i64 (rputE f m))]) [] :=
  runFnC_sound ok okM Try.call12 Try.func12 (by kernel_rfl) (by kernel_rfl) (by kernel_rfl) (by show 2 ≤ 69; decide) (by decide) (by rfl) ((run f m).trans (f0_eq f m h))
noncomputable def sp : Sp U El := fun args k => match args with
  | [.agg [.int .i64 f_dl, .lst .msg f_gt, .lst .msg f_wt, .lst .msg f_lt], .agg [.str m_nd, .int .i64 m_no, .int .i64 m_at_, .int .i64 m_ar, .int .i64 m_lv]] => chk (rfOk (⟨f_dl, f_gt, f_wt, f_lt⟩ : RF)) (k (.tup [(.agg [(.int .i64 ((rputF (⟨f_dl, f_gt, f_wt, f_lt⟩ : RF) (⟨m_nd, m_no, m_at_, m_ar, m_lv⟩ : Msg)).dl)), (.lst .msg ((rputF (⟨f_dl, f_gt, f_wt, f_lt⟩ : RF) (⟨m_nd, m_no, m_at_, m_ar, m_lv⟩ : Msg)).gt)), (.lst .msg ((rputF (⟨f_dl, f_gt, f_wt, f_lt⟩ : RF) (⟨m_nd, m_no, m_at_, m_ar, m_lv⟩ : Msg)).wt)), (.lst .msg ((rputF (⟨f_dl, f_gt, f_wt, f_lt⟩ : RF) (⟨m_nd, m_no, m_at_, m_ar, m_lv⟩ : Msg)).lt))]), (.int .i64 (rputE (⟨f_dl, f_gt, f_wt, f_lt⟩ : RF) (⟨m_nd, m_no, m_at_, m_ar, m_lv⟩ : Msg)))]) [])
  | _ => none
theorem spOk : SpOk Try.prog E 12 sp where
  det := fun vs => by
    unfold sp
    split
    · rename_i f_dl f_gt f_wt f_lt m_nd m_no m_at_ m_ar m_lv
      cases hb : (rfOk (⟨f_dl, f_gt, f_wt, f_lt⟩ : RF))
      · exact ⟨none, fun _ => rfl⟩
      · exact ⟨some (_, _), fun _ => rfl⟩
    · exact ⟨none, fun _ => rfl⟩
  ok := fun vs k r h => by
    unfold sp at h
    split at h
    · obtain ⟨h1, h2⟩ := chk_some h
      exact ⟨_, _, spec ⟨_, _, _, _⟩ ⟨_, _, _, _, _⟩ h1, h2⟩
    · cases h
end rput
namespace rready
noncomputable def bd : Code := (Try.f18.body).getD .skip
noncomputable def X : Ctx U El := ⟨E, tds, zeros, eqs, specOf [(15, rmark.sp)], 100000, 39, dspecOf [], fun _ => none⟩
noncomputable def nmR : Norm U := ⟨[(3, .msg)], [39, 3], [3], [], [], [(39, 1, .msg), (39, 2, .msg), (39, 3, .msg)], []⟩
noncomputable def RR : Kont U El := fun st => loadRes X 39 [(2, 31)] 39 st fun st => normK nmR st (retFin [39, 3] [3])
noncomputable def nm1 : Norm U := ⟨[], [1, 2, 4], [1, 2], [], [], [], [(1, 1, .msg), (1, 2, .msg), (1, 3, .msg)]⟩
noncomputable def nm2 : Norm U := ⟨[], [1, 2, 4], [1, 2], [], [], [], [(1, 1, .msg), (1, 2, .msg), (1, 3, .msg)]⟩
noncomputable def nm3 : Norm U := ⟨[], [1, 2, 4], [1, 2], [], [], [], [(1, 1, .msg), (1, 2, .msg), (1, 3, .msg)]⟩
noncomputable def fr0 (f : RF) : St U El := ⟨[(0, (.agg [(.int .i64 f.dl), (.lst .msg f.gt), (.lst .msg f.wt), (.lst .msg f.lt)]))], []⟩
noncomputable def fr1 (n4 : Int) (b1_0 : Int) (b1_1 : List Msg) (b1_2 : List Msg) (b1_3 : List Msg) (b2_0 : Int) : St U El := ⟨[(1, (.ptr 1 0)), (2, (.ptr 2 0)), (4, (.int .i64 n4))], [(1, (.box 0 [(.int .i64 b1_0), (.lst .msg b1_1), (.lst .msg b1_2), (.lst .msg b1_3)])), (2, (.box 0 [(.int .i64 b2_0), .nils, .nils, .nils]))]⟩
noncomputable def fr2 (n4 : Int) (b1_0 : Int) (b1_1 : List Msg) (b1_2 : List Msg) (b1_3 : List Msg) (b2_0 : Int) : St U El := ⟨[(1, (.ptr 1 0)), (2, (.ptr 2 0)), (4, (.int .i64 n4))], [(1, (.box 0 [(.int .i64 b1_0), (.lst .msg b1_1), (.lst .msg b1_2), (.lst .msg b1_3)])), (2, (.box 0 [(.int .i64 b2_0), .nils, .nils, .nils]))]⟩
noncomputable def fr3 (n4 : Int) (b1_0 : Int) (b1_1 : List Msg) (b1_2 : List Msg) (b1_3 : List Msg) (b2_0 : Int) : St U El := ⟨[(1, (.ptr 1 0)), (2, (.ptr 2 0)), (4, (.int .i64 n4))], [(1, (.box 0 [(.int .i64 b1_0), (.lst .msg b1_1), (.lst .msg b1_2), (.lst .msg b1_3)])), (2, (.box 0 [(.int .i64 b2_0), .nils, .nils, .nils]))]⟩
noncomputable def sh0 (f : RF) (k2 : Int → Int → (List Msg) → (List Msg) → (List Msg) → Int → R) : R :=
  k2 (0 : Int) f.dl f.gt f.wt f.lt (0 : Int)
noncomputable def sh1 (n4 : Int) (b1_0 : Int) (b1_1 : List Msg) (b1_2 : List Msg) (b1_3 : List Msg) (b2_0 : Int) : R :=
  chk (ile 0 (0 : Int) && ile (0 : Int) n4 && ile n4 (Int.ofNat (List.length b1_2))) (chk (nle ((List.length ([] : List Msg) + List.length (sub b1_2 (0 : Int) n4)) * 48) 140737488355328 && nle (List.length ([] : List Msg) + List.length (sub b1_2 (0 : Int) n4)) 9223372036854775807) (chk (ile 0 n4 && ile n4 (Int.ofNat (List.length b1_2)) && ile (Int.ofNat (List.length b1_2)) (Int.ofNat (List.length b1_2))) (chk (nle ((List.length ([] : List Msg) + List.length (sub b1_2 n4 (Int.ofNat (List.length b1_2)))) * 48) 140737488355328 && nle (List.length ([] : List Msg) + List.length (sub b1_2 n4 (Int.ofNat (List.length b1_2)))) 9223372036854775807) (some ((.tup [(.agg [(.int .i64 b1_0), (.lst .msg b1_1), (.lst .msg (([] : List Msg) ++ (sub b1_2 n4 (Int.ofNat (List.length b1_2))))), (.lst .msg b1_3)]), (.ful 0)]), [(0, .rows .msg (([] : List Msg) ++ (sub b1_2 (0 : Int) n4)))])))))
noncomputable def sh2 (n4 : Int) (b1_0 : Int) (b1_1 : List Msg) (b1_2 : List Msg) (b1_3 : List Msg) (b2_0 : Int) (k1 : Int → Int → (List Msg) → (List Msg) → (List Msg) → Int → R) (k3 : Int → Int → (List Msg) → (List Msg) → (List Msg) → Int → R) : R :=
  condB (ilt n4 (Int.ofNat (List.length b1_2))) (chk (inb n4 (List.length b1_2)) (chk (nle (List.length (RF.gt (⟨b1_0, b1_1, b1_2, b1_3⟩ : RF))) 90000) (condB (ilt ((List.getD b1_2 (Int.toNat n4) d_msg).at_) (rmarkZ (⟨b1_0, b1_1, b1_2, b1_3⟩ : RF))) (k3 n4 b1_0 b1_1 b1_2 b1_3 b2_0) (k1 n4 b1_0 b1_1 b1_2 b1_3 b2_0)))) (k1 n4 b1_0 b1_1 b1_2 b1_3 b2_0)
noncomputable def sh3 (n4 : Int) (b1_0 : Int) (b1_1 : List Msg) (b1_2 : List Msg) (b1_3 : List Msg) (b2_0 : Int) (k2 : Int → Int → (List Msg) → (List Msg) → (List Msg) → Int → R) : R :=
  k2 (IntKind.wrap .i64 (n4 + (1 : Int))) b1_0 b1_1 b1_2 b1_3 b2_0
noncomputable def it2 (Kb1 : Kont U El) (n : Nat) : Kont U El := iter nm2 (fun st' K' => exec X (cdp [1, 1, 0, 0, 0] bd) (.seq (some nm3) .d .d) st' K' (Eblk 0 (cutK nm1 Kb1) (fun _ _ => none)) RR) n
noncomputable def ct1 : Kont U El := fun st => exec X (cdp [1, 1, 1] bd) .d st RR (fun _ _ => none) RR
noncomputable def ct3 (Kb1 : Kont U El) (Kb2 : Kont U El) : Kont U El := fun st => exec X (cdp [1, 1, 0, 0, 0, 1] bd) .d st (cutK nm2 Kb2) (Eblk 0 (cutK nm1 Kb1) (fun _ _ => none)) RR
theorem P0 (f : RF) : exec X (cdp [] bd) (.seq none .d (.seq none .d (.seq (some nm1) (.block (.loop nm2 (.seq (some nm3) .d .d))) .d))) (fr0 f) RR (fun _ _ => none) RR = sh0 f (fun y0 y1 y2 y3 y4 y5 => (hid (it2 (hid ct1) 100000)) (fr2 y0 y1 y2 y3 y4 y5)) := by kernel_rfl
theorem P1 (n4 : Int) (b1_0 : Int) (b1_1 : List Msg) (b1_2 : List Msg) (b1_3 : List Msg) (b2_0 : Int) : exec X (cdp [1, 1, 1] bd) .d (fr1 n4 b1_0 b1_1 b1_2 b1_3 b2_0) RR (fun _ _ => none) RR = sh1 n4 b1_0 b1_1 b1_2 b1_3 b2_0 := by kernel_rfl
theorem P2 (n4 : Int) (b1_0 : Int) (b1_1 : List Msg) (b1_2 : List Msg) (b1_3 : List Msg) (b2_0 : Int) (Kb1 : Kont U El) (Kb2 : Kont U El) : exec X (cdp [1, 1, 0, 0, 0] bd) (.seq (some nm3) .d .d) (fr2 n4 b1_0 b1_1 b1_2 b1_3 b2_0) (cutK nm2 Kb2) (Eblk 0 (cutK nm1 Kb1) (fun _ _ => none)) RR = sh2 n4 b1_0 b1_1 b1_2 b1_3 b2_0 (fun y0 y1 y2 y3 y4 y5 => Kb1 (fr1 y0 y1 y2 y3 y4 y5)) (fun y0 y1 y2 y3 y4 y5 => (hid (ct3 Kb1 Kb2)) (fr3 y0 y1 y2 y3 y4 y5)) := by kernel_rfl
theorem P3 (n4 : Int) (b1_0 : Int) (b1_1 : List Msg) (b1_2 : List Msg) (b1_3 : List Msg) (b2_0 : Int) (Kb1 : Kont U El) (Kb2 : Kont U El) : exec X (cdp [1, 1, 0, 0, 0, 1] bd) .d (fr3 n4 b1_0 b1_1 b1_2 b1_3 b2_0) (cutK nm2 Kb2) (Eblk 0 (cutK nm1 Kb1) (fun _ _ => none)) RR = sh3 n4 b1_0 b1_1 b1_2 b1_3 b2_0 (fun y0 y1 y2 y3 y4 y5 => Kb2 (fr2 y0 y1 y2 y3 y4 y5)) := by kernel_rfl
noncomputable def f1 (n4 : Int) (b1_0 : Int) (b1_1 : List Msg) (b1_2 : List Msg) (b1_3 : List Msg) (b2_0 : Int) : R := sh1 n4 b1_0 b1_1 b1_2 b1_3 b2_0
noncomputable def f3 (k2 : Int → Int → (List Msg) → (List Msg) → (List Msg) → Int → R) (n4 : Int) (b1_0 : Int) (b1_1 : List Msg) (b1_2 : List Msg) (b1_3 : List Msg) (b2_0 : Int) : R := sh3 n4 b1_0 b1_1 b1_2 b1_3 b2_0 k2
noncomputable def f2 : Nat → Int → Int → (List Msg) → (List Msg) → (List Msg) → Int → R
  | 0 => fun _ _ _ _ _ _ => none
  | n + 1 => fun n4 b1_0 b1_1 b1_2 b1_3 b2_0 => sh2 n4 b1_0 b1_1 b1_2 b1_3 b2_0 f1 (f3 (f2 n))
noncomputable def f0 (f : RF) : R := sh0 f (f2 100000)
theorem T1 (n4 : Int) (b1_0 : Int) (b1_1 : List Msg) (b1_2 : List Msg) (b1_3 : List Msg) (b2_0 : Int) : (hid ct1) (fr1 n4 b1_0 b1_1 b1_2 b1_3 b2_0) = f1 n4 b1_0 b1_1 b1_2 b1_3 b2_0 := by
  refine (congrFun (hid_eq _) _).trans <| (P1 n4 b1_0 b1_1 b1_2 b1_3 b2_0).trans ?_
  show _ = sh1 n4 b1_0 b1_1 b1_2 b1_3 b2_0
  rfl
theorem T3 (KL2 : Kont U El) (k2 : Int → Int → (List Msg) → (List Msg) → (List Msg) → Int → R) (h2 : ∀ n4 b1_0 b1_1 b1_2 b1_3 b2_0, KL2 (fr2 n4 b1_0 b1_1 b1_2 b1_3 b2_0) = k2 n4 b1_0 b1_1 b1_2 b1_3 b2_0) (n4 : Int) (b1_0 : Int) (b1_1 : List Msg) (b1_2 : List Msg) (b1_3 : List Msg) (b2_0 : Int) : (hid (ct3 (hid ct1) KL2)) (fr3 n4 b1_0 b1_1 b1_2 b1_3 b2_0) = f3 k2 n4 b1_0 b1_1 b1_2 b1_3 b2_0 := by
  refine (congrFun (hid_eq _) _).trans <| (P3 n4 b1_0 b1_1 b1_2 b1_3 b2_0 (hid ct1) KL2).trans ?_
  show _ = sh3 n4 b1_0 b1_1 b1_2 b1_3 b2_0 k2
  simp only [h2]
theorem T2 : ∀ (n : Nat), ∀ n4 b1_0 b1_1 b1_2 b1_3 b2_0, it2 (hid ct1) n (fr2 n4 b1_0 b1_1 b1_2 b1_3 b2_0) = f2 n n4 b1_0 b1_1 b1_2 b1_3 b2_0 := by
  intro n
  induction n with
  | zero => intros; rfl
  | succ n ih =>
    intro n4 b1_0 b1_1 b1_2 b1_3 b2_0
    refine (P2 n4 b1_0 b1_1 b1_2 b1_3 b2_0 (hid ct1) (it2 (hid ct1) n)).trans ?_
    show _ = sh2 n4 b1_0 b1_1 b1_2 b1_3 b2_0 f1 (f3 (f2 n))
    simp only [T1, T3 (it2 (hid ct1) n) (f2 n) ih]
theorem H2 (n4 : Int) (b1_0 : Int) (b1_1 : List Msg) (b1_2 : List Msg) (b1_3 : List Msg) (b2_0 : Int) : hid (it2 (hid ct1) 100000) (fr2 n4 b1_0 b1_1 b1_2 b1_3 b2_0) = f2 100000 n4 b1_0 b1_1 b1_2 b1_3 b2_0 := (congrFun (hid_eq _) _).trans (T2 100000 n4 b1_0 b1_1 b1_2 b1_3 b2_0)
theorem T0 (f : RF) : exec X bd (.seq none .d (.seq none .d (.seq (some nm1) (.block (.loop nm2 (.seq (some nm3) .d .d))) .d))) (fr0 f) RR (fun _ _ => none) RR = f0 f := by
  refine (P0 f).trans ?_
  show _ = sh0 f (f2 100000)
  simp only [H2]
theorem run (f : RF) : runFnC X bd (.seq none .d (.seq none .d (.seq (some nm1) (.block (.loop nm2 (.seq (some nm3) .d .d))) .d))) nmR [(2, 31)] [39, 3] [3] [(.agg [(.int .i64 f.dl), (.lst .msg f.gt), (.lst .msg f.wt), (.lst .msg f.lt)])] = f0 f := T0 f
theorem loop (f : RF) (h1 : f.gt.length ≤ 80000) (hl : f.wt.length ≤ 80000) : ∀ (n i : Nat), f.wt.length < n + i → i ≤ f.wt.length → f2 n (i : Int) f.dl f.gt f.wt f.lt 0 = f1 ((i + preN (rmarkZ f) (f.wt.drop i) : Nat) : Int) f.dl f.gt f.wt f.lt 0 := by
  intro n
  induction n with
  | zero => intro i h1 h2; omega
  | succ n ih =>
    intro i h3 h4
    show sh2 (i : Int) f.dl f.gt f.wt f.lt 0 f1 (f3 (f2 n)) = _
    unfold sh2
    by_cases hi : i < f.wt.length
    · rw [iltT (show (i : Int) < Int.ofNat f.wt.length by simp; omega), inbT hi, toNat_nat, nleT (show f.gt.length ≤ 90000 by omega), getD_lt hi, drop_lt hi]
      rw [show (⟨f.dl, f.gt, f.wt, f.lt⟩ : RF) = f from rfl]
      simp only [chkT, condT, preN, List.takeWhile_cons]
      show condB _ (f2 n (IntKind.wrap .i64 ((i : Int) + 1)) f.dl f.gt f.wt f.lt 0) _ = _
      cases ilt (Msg.at_ f.wt[i]) (rmarkZ f)
      · rfl
      · rw [condT, wrapS i (by omega), ih (i + 1) (by omega) hi]
        simp only [preN, if_true, List.length_cons]
        congr 2
        omega
    · have : i = f.wt.length := by omega
      subst this
      rw [iltF (by simp), List.drop_length]
      rfl
theorem f0_eq (f : RF) (h : rfOk f = true) : f0 f = some (.tup [.agg [.int .i64 (rreadyF f).dl, .lst .msg (rreadyF f).gt, .lst .msg (rreadyF f).wt, .lst .msg (rreadyF f).lt], .ful 0], [(0, .rows .msg (rreadyL f))]) := by
  simp only [rfOk, Bool.and_eq_true] at h
  have h1 := nleI h.1
  have h2 := nleI h.2.1
  have h3 : preN (rmarkZ f) f.wt ≤ f.wt.length := by unfold preN; exact (List.takeWhile_sublist _).length_le
  refine (loop f h1 h2 100000 0 (by omega) (by omega)).trans ?_
  simp only [List.drop_zero, Nat.zero_add]
  show sh1 _ f.dl f.gt f.wt f.lt 0 = _
  unfold sh1
  have e1 : sub f.wt (0 : Int) ((preN (rmarkZ f) f.wt : Nat) : Int) = f.wt.take (preN (rmarkZ f) f.wt) := by unfold sub; simp
  have e2 : sub f.wt ((preN (rmarkZ f) f.wt : Nat) : Int) (Int.ofNat f.wt.length) = f.wt.drop (preN (rmarkZ f) f.wt) := by unfold sub; rw [toNat_nat, toNat_ofNat, List.take_of_length_le (by simp)]
  rw [e1, e2, ileT (Int.le_refl 0), ileT (show (0 : Int) ≤ ((preN (rmarkZ f) f.wt : Nat) : Int) by omega), ileT (show ((preN (rmarkZ f) f.wt : Nat) : Int) ≤ Int.ofNat f.wt.length by simp; omega), ileT (Int.le_refl _), capT (by simp) (by simp; omega), capT (by simp) (by simp; omega)]
  rfl
theorem ok : CtxOk Try.prog X := ctxOk tab (by
  intro p hp
  simp only [List.mem_cons, List.not_mem_nil, or_false] at hp
  rcases hp with rfl
  · exact rmark.spOk) (by
  intro p hp
  cases hp)
theorem okM : MOk Try.prog X := fun g sp h => by cases h
theorem spec (f : RF) (h : (rfOk f) = true) : CallSpec Try.prog E 18 [(.agg [(.int .i64 f.dl), (.lst .msg f.gt), (.lst .msg f.wt), (.lst .msg f.lt)])] (.tup [(.agg [(.int .i64 ((rreadyF f).dl)), (.lst .msg ((rreadyF f).gt)), (.lst .msg ((rreadyF f).wt)), (.lst .msg ((rreadyF f).lt))]), (.ful 0)]) [(0, .rows .msg (rreadyL f))] :=
  runFnC_sound ok okM Try.call18 Try.func18 (by kernel_rfl) (by kernel_rfl) (by kernel_rfl) (by show 1 ≤ 39; decide) (by decide) (by rfl) ((run f).trans (f0_eq f h))
noncomputable def sp : Sp U El := fun args k => match args with
  | [.agg [.int .i64 f_dl, .lst .msg f_gt, .lst .msg f_wt, .lst .msg f_lt]] => chk (rfOk (⟨f_dl, f_gt, f_wt, f_lt⟩ : RF)) (k (.tup [(.agg [(.int .i64 ((rreadyF (⟨f_dl, f_gt, f_wt, f_lt⟩ : RF)).dl)), (.lst .msg ((rreadyF (⟨f_dl, f_gt, f_wt, f_lt⟩ : RF)).gt)), (.lst .msg ((rreadyF (⟨f_dl, f_gt, f_wt, f_lt⟩ : RF)).wt)), (.lst .msg ((rreadyF (⟨f_dl, f_gt, f_wt, f_lt⟩ : RF)).lt))]), (.ful 0)]) [(0, .rows .msg (rreadyL (⟨f_dl, f_gt, f_wt, f_lt⟩ : RF)))])
  | _ => none
theorem spOk : SpOk Try.prog E 18 sp where
  det := fun vs => by
    unfold sp
    split
    · rename_i f_dl f_gt f_wt f_lt
      cases hb : (rfOk (⟨f_dl, f_gt, f_wt, f_lt⟩ : RF))
      · exact ⟨none, fun _ => rfl⟩
      · exact ⟨some (_, _), fun _ => rfl⟩
    · exact ⟨none, fun _ => rfl⟩
  ok := fun vs k r h => by
    unfold sp at h
    split at h
    · obtain ⟨h1, h2⟩ := chk_some h
      exact ⟨_, _, spec ⟨_, _, _, _⟩ h1, h2⟩
    · cases h
end rready
end Go.Proofs.Ytkeplmpcijigaaa
