/- The messages of a node, in order. -/
import Derived.Test.YtkeplmpcijigaaaVS
namespace Go.Proofs.Ytkeplmpcijigaaa
set_option linter.unusedSectionVars false
set_option linter.unusedSimpArgs false
set_option linter.unusedVariables false
set_option maxRecDepth 100000

theorem findZ_parts {α : Type} (p : α → Bool) : ∀ (l : List α) (i : Nat), (findZ p i l = -1 ∧ l.filter (fun m => !p m) = l) ∨ ∃ a x b, l = a ++ x :: b ∧ findZ p i l = ((i + a.length : Nat) : Int) ∧ p x = true ∧ a.filter (fun m => !p m) = a := by
  intro l
  induction l with
  | nil => intro i; exact .inl ⟨rfl, rfl⟩
  | cons y l ih =>
    intro i
    cases hy : p y
    · rcases ih (i + 1) with ⟨h1, h2⟩ | ⟨a, x, b, h1, h2, h3, h4⟩
      · left
        refine ⟨?_, by simp [hy, h2]⟩
        simp only [findZ, hy]
        exact h1
      · right
        refine ⟨y :: a, x, b, by simp [h1], ?_, h3, by simp [hy, h4]⟩
        simp only [findZ, hy]
        rw [cond_false, h2]
        congr 1
        simp; omega
    · right
      refine ⟨[], y, l, rfl, ?_, hy, rfl⟩
      simp only [findZ, hy]
      rfl
noncomputable def hsB (s : List UInt8) : Heap U El := [(1000000001, .box 1000000001 [.str s])]
namespace delM
noncomputable def bd : Code := (Try.f64.body).getD .skip
noncomputable def X : Ctx U El := ⟨E, tds, zeros, eqs, specOf [(52, orF 65 indexFew.sp indexOf.sp), (65, ofNe.sp)], 100000, 42, dspecOf [], fun _ => none⟩
noncomputable def nmR : Norm U := ⟨[], [4], [1000000001], [(4, .msg)], [], [], []⟩
noncomputable def RR : Kont U El := fun st => normK nmR st (retM [4])
noncomputable def nm1 : Norm U := ⟨[], [0, 5], [1000000001, 1000000000], [], [], [], []⟩
noncomputable def nm2 : Norm U := ⟨[], [0, 1, 5, 6], [1000000001, 1000000000], [], [], [], []⟩
noncomputable def nm3 : Norm U := ⟨[], [0, 1, 5, 6], [1000000001, 1000000000], [], [], [], []⟩
noncomputable def fr0 (l : List Msg) (s : List UInt8) : St U El := ⟨[(0, (.ful 1000000000)), (1, (.fn 65 [] [(.ptr 1000000001 0)]))], [(1000000000, (.rows .msg l)), (1000000001, (.box 1000000001 [(.str s)]))]⟩
noncomputable def fr1 (i5 : Int) (bh1_0 : List UInt8) (hr0 : List Msg) : St U El := ⟨[(0, (.ful 1000000000)), (5, (.int .i64 i5))], [(1000000001, (.box 1000000001 [(.str bh1_0)])), (1000000000, (.rows .msg hr0))]⟩
noncomputable def fr2 (i5 : Int) (j6 : Int) (bh1_0 : List UInt8) (hr0 : List Msg) : St U El := ⟨[(0, (.ful 1000000000)), (1, (.fn 65 [] [(.ptr 1000000001 0)])), (5, (.int .i64 i5)), (6, (.int .i64 j6))], [(1000000001, (.box 1000000001 [(.str bh1_0)])), (1000000000, (.rows .msg hr0))]⟩
noncomputable def fr3 (i5 : Int) (j6 : Int) (bh1_0 : List UInt8) (hr0 : List Msg) : St U El := ⟨[(0, (.ful 1000000000)), (1, (.fn 65 [] [(.ptr 1000000001 0)])), (5, (.int .i64 i5)), (6, (.int .i64 j6))], [(1000000001, (.box 1000000001 [(.str bh1_0)])), (1000000000, (.rows .msg hr0))]⟩
noncomputable def sh0 (l : List Msg) (s : List UInt8) (k2 : Int → Int → (List UInt8) → (List Msg) → R) : R :=
  chk (nle (List.length l) 90000) (condB ((findZ (fun m => !(Msg.nd m == s)) 0 l) == (-1 : Int)) (some ((.lst .msg l), [(1000000001, (.box 1000000001 [(.str s)]))])) (k2 (findZ (fun m => !(Msg.nd m == s)) 0 l) (IntKind.wrap .i64 ((findZ (fun m => !(Msg.nd m == s)) 0 l) + (1 : Int))) s l))
noncomputable def sh1 (i5 : Int) (bh1_0 : List UInt8) (hr0 : List Msg) : R :=
  chk (ile 0 i5 && ile i5 (Int.ofNat (List.length hr0)) && ile (Int.ofNat (List.length hr0)) (Int.ofNat (List.length hr0))) (chk (true && (nlt 0 (Int.toNat (Int.ofNat (List.length hr0)) - (Int.toNat i5)) && nle ((Int.toNat i5) + (Int.toNat (Int.ofNat (List.length hr0)) - (Int.toNat i5))) (List.length hr0))) (chk (ile 0 (0 : Int) && ile (0 : Int) i5 && ile i5 (Int.ofNat (List.length (List.take (Int.toNat i5) hr0 ++ (List.replicate (Int.toNat (Int.ofNat (List.length hr0)) - (Int.toNat i5)) d_msg ++ List.drop ((Int.toNat i5) + (Int.toNat (Int.ofNat (List.length hr0)) - (Int.toNat i5))) hr0))))) (chk (nle (0 + (Int.toNat i5 - 0)) (List.length (List.take (Int.toNat i5) hr0 ++ (List.replicate (Int.toNat (Int.ofNat (List.length hr0)) - (Int.toNat i5)) d_msg ++ List.drop ((Int.toNat i5) + (Int.toNat (Int.ofNat (List.length hr0)) - (Int.toNat i5))) hr0)))) (some ((.lst .msg (List.take (Int.toNat i5 - 0) (List.drop 0 (List.take (Int.toNat i5) hr0 ++ (List.replicate (Int.toNat (Int.ofNat (List.length hr0)) - (Int.toNat i5)) d_msg ++ List.drop ((Int.toNat i5) + (Int.toNat (Int.ofNat (List.length hr0)) - (Int.toNat i5))) hr0))))), [(1000000001, (.box 1000000001 [(.str bh1_0)]))])))))
noncomputable def sh2 (i5 : Int) (j6 : Int) (bh1_0 : List UInt8) (hr0 : List Msg) (k1 : Int → (List UInt8) → (List Msg) → R) (k3 : Int → Int → (List UInt8) → (List Msg) → R) : R :=
  condB (ilt j6 (Int.ofNat (List.length hr0))) (chk (inb j6 (List.length hr0)) (chk (nlt (Int.toNat j6) (List.length hr0)) (condB (!((!((Msg.nd (List.getD hr0 (Int.toNat j6) d_msg)) == bh1_0)))) (chk (inb i5 (List.length hr0)) (chk (nlt (Int.toNat i5) (List.length hr0) && true) (k3 (IntKind.wrap .i64 (i5 + (1 : Int))) j6 bh1_0 (List.set hr0 (Int.toNat i5) (List.getD hr0 (Int.toNat j6) d_msg))))) (k3 i5 j6 bh1_0 hr0)))) (k1 i5 bh1_0 hr0)
noncomputable def sh3 (i5 : Int) (j6 : Int) (bh1_0 : List UInt8) (hr0 : List Msg) (k2 : Int → Int → (List UInt8) → (List Msg) → R) : R :=
  k2 i5 (IntKind.wrap .i64 (j6 + (1 : Int))) bh1_0 hr0
noncomputable def it2 (Kb1 : Kont U El) (n : Nat) : Kont U El := iter nm2 (fun st' K' => exec X (cdp [1, 1, 1, 0, 1, 0, 0] bd) (.seq none .d (.seq (some nm3) .d .d)) st' K' (Eblk 0 (cutK nm1 Kb1) (fun _ _ => none)) RR) n
noncomputable def ct1 : Kont U El := fun st => exec X (cdp [1, 1, 1, 1] bd) .d st RR (fun _ _ => none) RR
noncomputable def ct3 (Kb1 : Kont U El) (Kb2 : Kont U El) : Kont U El := fun st => exec X (cdp [1, 1, 1, 0, 1, 0, 0, 1, 1] bd) .d st (cutK nm2 Kb2) (Eblk 0 (cutK nm1 Kb1) (fun _ _ => none)) RR
theorem P0 (l : List Msg) (s : List UInt8) : exec X (cdp [] bd) (.seq none .d (.seq none .d (.seq none .d (.seq (some nm1) (.seq none .d (.block (.loop nm2 (.seq none .d (.seq (some nm3) .d .d))))) .d)))) (fr0 l s) RR (fun _ _ => none) RR = sh0 l s (fun y0 y1 y2 y3 => (hid (it2 (hid ct1) 100000)) (fr2 y0 y1 y2 y3)) := by kernel_rfl
theorem P1 (i5 : Int) (bh1_0 : List UInt8) (hr0 : List Msg) : exec X (cdp [1, 1, 1, 1] bd) .d (fr1 i5 bh1_0 hr0) RR (fun _ _ => none) RR = sh1 i5 bh1_0 hr0 := by kernel_rfl
theorem P2 (i5 : Int) (j6 : Int) (bh1_0 : List UInt8) (hr0 : List Msg) (Kb1 : Kont U El) (Kb2 : Kont U El) : exec X (cdp [1, 1, 1, 0, 1, 0, 0] bd) (.seq none .d (.seq (some nm3) .d .d)) (fr2 i5 j6 bh1_0 hr0) (cutK nm2 Kb2) (Eblk 0 (cutK nm1 Kb1) (fun _ _ => none)) RR = sh2 i5 j6 bh1_0 hr0 (fun y0 y1 y2 => Kb1 (fr1 y0 y1 y2)) (fun y0 y1 y2 y3 => (hid (ct3 Kb1 Kb2)) (fr3 y0 y1 y2 y3)) := by kernel_rfl
theorem P3 (i5 : Int) (j6 : Int) (bh1_0 : List UInt8) (hr0 : List Msg) (Kb1 : Kont U El) (Kb2 : Kont U El) : exec X (cdp [1, 1, 1, 0, 1, 0, 0, 1, 1] bd) .d (fr3 i5 j6 bh1_0 hr0) (cutK nm2 Kb2) (Eblk 0 (cutK nm1 Kb1) (fun _ _ => none)) RR = sh3 i5 j6 bh1_0 hr0 (fun y0 y1 y2 y3 => Kb2 (fr2 y0 y1 y2 y3)) := by kernel_rfl
noncomputable def f1 (i5 : Int) (bh1_0 : List UInt8) (hr0 : List Msg) : R := sh1 i5 bh1_0 hr0
noncomputable def f3 (k2 : Int → Int → (List UInt8) → (List Msg) → R) (i5 : Int) (j6 : Int) (bh1_0 : List UInt8) (hr0 : List Msg) : R := sh3 i5 j6 bh1_0 hr0 k2
noncomputable def f2 : Nat → Int → Int → (List UInt8) → (List Msg) → R
  | 0 => fun _ _ _ _ => none
  | n + 1 => fun i5 j6 bh1_0 hr0 => sh2 i5 j6 bh1_0 hr0 f1 (f3 (f2 n))
noncomputable def f0 (l : List Msg) (s : List UInt8) : R := sh0 l s (f2 100000)
theorem T1 (i5 : Int) (bh1_0 : List UInt8) (hr0 : List Msg) : (hid ct1) (fr1 i5 bh1_0 hr0) = f1 i5 bh1_0 hr0 := by
  refine (congrFun (hid_eq _) _).trans <| (P1 i5 bh1_0 hr0).trans ?_
  show _ = sh1 i5 bh1_0 hr0
  rfl
theorem T3 (KL2 : Kont U El) (k2 : Int → Int → (List UInt8) → (List Msg) → R) (h2 : ∀ i5 j6 bh1_0 hr0, KL2 (fr2 i5 j6 bh1_0 hr0) = k2 i5 j6 bh1_0 hr0) (i5 : Int) (j6 : Int) (bh1_0 : List UInt8) (hr0 : List Msg) : (hid (ct3 (hid ct1) KL2)) (fr3 i5 j6 bh1_0 hr0) = f3 k2 i5 j6 bh1_0 hr0 := by
  refine (congrFun (hid_eq _) _).trans <| (P3 i5 j6 bh1_0 hr0 (hid ct1) KL2).trans ?_
  show _ = sh3 i5 j6 bh1_0 hr0 k2
  simp only [h2]
theorem T2 : ∀ (n : Nat), ∀ i5 j6 bh1_0 hr0, it2 (hid ct1) n (fr2 i5 j6 bh1_0 hr0) = f2 n i5 j6 bh1_0 hr0 := by
  intro n
  induction n with
  | zero => intros; rfl
  | succ n ih =>
    intro i5 j6 bh1_0 hr0
    refine (P2 i5 j6 bh1_0 hr0 (hid ct1) (it2 (hid ct1) n)).trans ?_
    show _ = sh2 i5 j6 bh1_0 hr0 f1 (f3 (f2 n))
    simp only [T1, T3 (it2 (hid ct1) n) (f2 n) ih]
theorem H2 (i5 : Int) (j6 : Int) (bh1_0 : List UInt8) (hr0 : List Msg) : hid (it2 (hid ct1) 100000) (fr2 i5 j6 bh1_0 hr0) = f2 100000 i5 j6 bh1_0 hr0 := (congrFun (hid_eq _) _).trans (T2 100000 i5 j6 bh1_0 hr0)
theorem T0 (l : List Msg) (s : List UInt8) : exec X bd (.seq none .d (.seq none .d (.seq none .d (.seq (some nm1) (.seq none .d (.block (.loop nm2 (.seq none .d (.seq (some nm3) .d .d))))) .d)))) (fr0 l s) RR (fun _ _ => none) RR = f0 l s := by
  refine (P0 l s).trans ?_
  show _ = sh0 l s (f2 100000)
  simp only [H2]
theorem run (l : List Msg) (s : List UInt8) : runM X bd (.seq none .d (.seq none .d (.seq none .d (.seq (some nm1) (.seq none .d (.block (.loop nm2 (.seq none .d (.seq (some nm3) .d .d))))) .d)))) nmR [4] [(1000000000, (.rows .msg l)), (1000000001, (.box 1000000001 [(.str s)]))] [(.ful 1000000000), (.fn 65 [] [(.ptr 1000000001 0)])] = f0 l s := T0 l s
theorem loop (l : List Msg) (s : List UInt8) (hl : l.length ≤ 90000) : ∀ (n i j : Nat) (hr : List Msg), l.length < n + j → i < j → j ≤ l.length → hr.length = l.length → hr.take i = (l.take j).filter (fun m => Msg.nd m == s) → hr.drop j = l.drop j →
    f2 n (i : Int) (j : Int) s hr = some (.lst .msg (List.filter (fun m => Msg.nd m == s) l), hsB s) := by
  intro n
  induction n with
  | zero => intro i j hr h1 h2 h3; omega
  | succ n ih =>
    intro i j hr h1 h2 h3 h4 h5 h6
    show sh2 (i : Int) (j : Int) s hr f1 (f3 (f2 n)) = _
    unfold sh2
    by_cases hj : j < l.length
    · have hj' : j < hr.length := by omega
      have hx : hr[j] = l[j] ∧ hr.drop (j + 1) = l.drop (j + 1) := by
        rw [drop_lt hj, drop_lt hj'] at h6
        exact ⟨(List.cons.inj h6).1, (List.cons.inj h6).2⟩
      have hi' : i < hr.length := by omega
      rw [iltT (show (j : Int) < Int.ofNat hr.length by simp; omega), inbT hj', toNat_nat, nltT hj', getD_lt hj', hx.1]
      simp only [condT, chkT, Bool.not_not]
      have hf : (l.take (j + 1)).filter (fun m => Msg.nd m == s) = (l.take j).filter (fun m => Msg.nd m == s) ++ (if (Msg.nd l[j] == s) = true then [l[j]] else []) := by
        rw [take_lt hj, List.filter_append, List.filter_cons, List.filter_nil]
      cases hk : Msg.nd l[j] == s
      · show f2 n (i : Int) (IntKind.wrap .i64 ((j : Int) + 1)) s hr = _
        rw [wrapS j (by omega)]
        refine ih i (j + 1) hr (by omega) (by omega) hj h4 ?_ hx.2
        rw [hf, hk, h5]; simp
      · rw [condT, inbT hi', toNat_nat, nltT hi', wrapS i (by omega)]
        show f2 n ((i + 1 : Nat) : Int) (IntKind.wrap .i64 ((j : Int) + 1)) s (hr.set i l[j]) = _
        rw [wrapS j (by omega)]
        refine ih (i + 1) (j + 1) (hr.set i l[j]) (by omega) (by omega) hj (by simp [h4]) ?_ ?_
        · rw [hf, hk, ← h5, take_lt (show i < (hr.set i l[j]).length by simp; omega)]
          simp only [List.take_set, if_true, List.getElem_set_self]
          rw [List.set_eq_of_length_le (by simp; omega)]
        · rw [List.drop_set, if_pos (by omega)]; exact hx.2
    · have : j = l.length := by omega
      subst this
      rw [iltF (by simp; omega), condF]
      show sh1 (i : Int) s hr = _
      unfold sh1
      simp only [toNat_nat, toNat_ofNat]
      have e : List.take (i - 0) (List.drop 0 (List.take i hr ++ (List.replicate (hr.length - i) d_msg ++ List.drop (i + (hr.length - i)) hr))) = List.filter (fun m => Msg.nd m == s) l := by
        rw [List.drop_zero, Nat.sub_zero, List.take_left' (by simp; omega), h5, List.take_length]
      rw [ileT (show (0 : Int) ≤ i by omega), ileT (show (i : Int) ≤ Int.ofNat hr.length by simp; omega), ileT (Int.le_refl _), nltT (show 0 < hr.length - i by omega), nleT (show i + (hr.length - i) ≤ hr.length by omega), ileT (Int.le_refl _), ileT (show (i : Int) ≤ Int.ofNat (List.take i hr ++ (List.replicate (hr.length - i) d_msg ++ List.drop (i + (hr.length - i)) hr)).length by simp; omega), nleT (show 0 + (i - 0) ≤ (List.take i hr ++ (List.replicate (hr.length - i) d_msg ++ List.drop (i + (hr.length - i)) hr)).length by simp; omega)]
      exact congrArg (fun x : List Msg => (some (AV.lst U.msg x, hsB s) : R)) e
theorem f0_eq (l : List Msg) (s : List UInt8) (h : (nle (List.length l) 90000) = true) : f0 l s = some (.lst .msg (List.filter (fun m => Msg.nd m == s) l), hsB s) := by
  have hl := nleI h
  show sh0 l s (f2 100000) = _
  unfold sh0
  rw [h]
  rcases findZ_parts (fun m : Msg => !(Msg.nd m == s)) l 0 with ⟨h1, h2⟩ | ⟨a, x, b, h1, h2, h3, h4⟩
  · rw [h1]
    simp only [Bool.not_not] at h2
    exact congrArg (fun x : List Msg => (some (AV.lst U.msg x, hsB s) : R)) h2.symm
  · rw [h2]
    have hal : a.length + 1 ≤ l.length := by rw [h1]; simp
    rw [show ((((0 + a.length : Nat) : Int)) == (-1 : Int)) = false by first | (simp; done) | (simp; omega), Nat.zero_add]
    simp only [condF, chkT]
    rw [wrapS a.length (by omega)]
    refine loop l s hl 100000 a.length (a.length + 1) l (by omega) (by omega) hal rfl ?_ rfl
    have e1 : l.take (a.length + 1) = a ++ [x] := by rw [h1, show a ++ x :: b = (a ++ [x]) ++ b by simp, List.take_left' (by simp)]
    have e2 : l.take a.length = a := by rw [h1]; simp
    simp only [Bool.not_not] at h4
    simp only [Bool.not_eq_true'] at h3
    rw [e1, e2, List.filter_append, h4, List.filter_cons, h3]
    simp
theorem ok : CtxOk Try.prog X := ctxOk tab (by
  intro p hp
  simp only [List.mem_cons, List.not_mem_nil, or_false] at hp
  rcases hp with rfl | rfl
  · exact orF_ok indexFew.spOk indexOf.spOk
  · exact ofNe.spOk) (by
  intro p hp
  cases hp)
theorem okM : MOk Try.prog X := fun g sp h => by cases h
theorem spec (l : List Msg) (s : List UInt8) (h : (nle (List.length l) 90000) = true) : MCall Try.prog E 64 [(.ful 1000000000), (.fn 65 [] [(.ptr 1000000001 0)])] [(1000000000, (.rows .msg l)), (1000000001, (.box 1000000001 [(.str s)]))] (.lst .msg (List.filter (fun m => Msg.nd m == s) l)) [(1000000001, (.box 1000000001 [(.str s)]))] :=
  runM_sound ok okM Try.func64 (by kernel_rfl) (by kernel_rfl) (by kernel_rfl) (by show 2 ≤ 42; decide) ((run l s).trans (f0_eq l s h))
noncomputable def sp : MSp U El := fun args hs k => match args, hs with
  | [.ful q0, .fn 65 [] [.ptr q1 0]], [(q2, .rows .msg l), (q3, .box q4 [.str s])] => chk (Nat.beq q0 1000000000 && (Nat.beq q1 1000000001 && (Nat.beq q2 1000000000 && (Nat.beq q3 1000000001 && (Nat.beq q4 1000000001 && true))))) (chk (nle (List.length l) 90000) (k (.lst .msg (List.filter (fun m => Msg.nd m == s) l)) [(1000000001, (.box 1000000001 [(.str s)]))]))
  | _, _ => none
theorem spOk : MSpOk Try.prog E 64 sp := ⟨Try.call64, fun args hs k r h => by
  unfold sp at h
  split at h
  · obtain ⟨hq, hA⟩ := chk_some h
    clear h
    simp only [Bool.and_eq_true] at hq
    obtain ⟨e0, e1, e2, e3, e4, _⟩ := hq
    cases Nat.eq_of_beq_eq_true e0
    cases Nat.eq_of_beq_eq_true e1
    cases Nat.eq_of_beq_eq_true e2
    cases Nat.eq_of_beq_eq_true e3
    cases Nat.eq_of_beq_eq_true e4
    obtain ⟨h1, hB⟩ := chk_some hA
    exact ⟨_, _, spec _ _ h1, hB⟩
  · cases h⟩
theorem spDet : ∀ args hs, ∃ oo : Option (AV U El × Heap U El), ∀ k, sp args hs k = oo.bind fun p => k p.1 p.2 := fun args hs => by
  unfold sp
  split
  · exact det_chkM (det_chkM ⟨some (_, _), fun _ => rfl⟩)
  · exact ⟨none, fun _ => rfl⟩
end delM
namespace ofM
noncomputable def bd : Code := (Try.f47.body).getD .skip
noncomputable def X : Ctx U El := ⟨E, tds, zeros, eqs, specOf [(27, sortedM.sp), (54, isname.sp)], 100000, 23, dspecOf [], mspecOf [(64, (mcSp delM.sp))]⟩
noncomputable def nmR : Norm U := ⟨[], [4, 5], [], [(4, .msg)], [], [], []⟩
noncomputable def RR : Kont U El := fun st => normK nmR st (retFin [4, 5] [])
noncomputable def nm1 : Norm U := ⟨[(6, .msg)], [3, 6], [6, 3], [], [], [], []⟩
noncomputable def fr0 (l : List Msg) (node : List UInt8) : St U El := ⟨[(0, (.lst .msg l)), (1, (.str node))], []⟩
noncomputable def fr1 (s6 : List Msg) (b3_0 : List UInt8) : St U El := ⟨[(3, (.ptr 3 0)), (6, (.ful 6))], [(6, (.rows .msg s6)), (3, (.box 0 [(.str b3_0)]))]⟩
noncomputable def sh0 (l : List Msg) (node : List UInt8) (k1 : (List Msg) → (List UInt8) → R) : R :=
  condB (((bif validB l then 0 else 1)) != (0 : Int)) (some ((.tup [(.lst .msg ([] : List Msg)), (.int .i64 (1 : Int))]), [])) (condB (!(nameB node)) (some ((.tup [(.lst .msg ([] : List Msg)), (.int .i64 (1 : Int))]), [])) (k1 ((bif validB l then sortM l else [])) node))
noncomputable def sh1 (s6 : List Msg) (b3_0 : List UInt8) : R :=
  chk (nle (List.length s6) 90000) (some ((.tup [(.lst .msg (List.filter (fun m => Msg.nd m == b3_0) s6)), (.int .i64 (0 : Int))]), []))
noncomputable def ct1 : Kont U El := fun st => exec X (cdp [1, 1, 1] bd) .d st RR (fun _ _ => none) RR
theorem P0 (l : List Msg) (node : List UInt8) : exec X (cdp [] bd) (.seq none .d (.seq none .d (.seq (some nm1) .d .d))) (fr0 l node) RR (fun _ _ => none) RR = sh0 l node (fun y0 y1 => (hid ct1) (fr1 y0 y1)) := by kernel_rfl
theorem P1 (s6 : List Msg) (b3_0 : List UInt8) : exec X (cdp [1, 1, 1] bd) .d (fr1 s6 b3_0) RR (fun _ _ => none) RR = sh1 s6 b3_0 := by kernel_rfl
noncomputable def f1 (s6 : List Msg) (b3_0 : List UInt8) : R := sh1 s6 b3_0
noncomputable def f0 (l : List Msg) (node : List UInt8) : R := sh0 l node f1
theorem T1 (s6 : List Msg) (b3_0 : List UInt8) : (hid ct1) (fr1 s6 b3_0) = f1 s6 b3_0 := by
  refine (congrFun (hid_eq _) _).trans <| (P1 s6 b3_0).trans ?_
  show _ = sh1 s6 b3_0
  rfl
theorem T0 (l : List Msg) (node : List UInt8) : exec X bd (.seq none .d (.seq none .d (.seq (some nm1) .d .d))) (fr0 l node) RR (fun _ _ => none) RR = f0 l node := by
  refine (P0 l node).trans ?_
  show _ = sh0 l node f1
  simp only [T1]
theorem run (l : List Msg) (node : List UInt8) : runFn X bd (.seq none .d (.seq none .d (.seq (some nm1) .d .d))) nmR [4, 5] [] [(.lst .msg l), (.str node)] = f0 l node := T0 l node
theorem f0_eq (l : List Msg) (node : List UInt8) : f0 l node = some (.tup [.lst .msg (bif validB l && nameB node then List.filter (fun m => Msg.nd m == node) (sortM l) else []), .int .i64 (bif validB l && nameB node then 0 else 1)], []) := by
  show sh0 l node f1 = _
  unfold sh0
  cases hv : validB l
  · rfl
  · cases hn : nameB node
    · rfl
    · obtain ⟨h1, h2⟩ := valid_keys hv
      have hs : (sortM l).length = l.length := (sortM_perm l).length_eq
      show sh1 (sortM l) node = _
      unfold sh1
      rw [nleT (show (sortM l).length ≤ 90000 by omega)]
      rfl
theorem ok : CtxOk Try.prog X := ctxOk tab (by
  intro p hp
  simp only [List.mem_cons, List.not_mem_nil, or_false] at hp
  rcases hp with rfl | rfl
  · exact sortedM.spOk
  · exact isname.spOk) (by
  intro p hp
  cases hp)
theorem okM : MOk Try.prog X := mspecOf_ok _ (by
  intro p hp
  simp only [List.mem_cons, List.not_mem_nil, or_false] at hp
  rcases hp with rfl
  · exact mcSp_ok ok delM.spOk)
theorem spec (l : List Msg) (node : List UInt8) : CallSpec Try.prog E 47 [(.lst .msg l), (.str node)] (.tup [(.lst .msg ((bif validB l && nameB node then List.filter (fun m => Msg.nd m == node) (sortM l) else []))), (.int .i64 ((bif validB l && nameB node then 0 else 1)))]) [] :=
  runFn_sound ok okM Try.call47 Try.func47 (by kernel_rfl) (by kernel_rfl) (by kernel_rfl) (by show 2 ≤ 23; decide) (by decide) (by rfl) ((run l node).trans (f0_eq l node))
noncomputable def sp : Sp U El := fun args k => match args with
  | [.lst .msg l, .str node] => k (.tup [(.lst .msg ((bif validB l && nameB node then List.filter (fun m => Msg.nd m == node) (sortM l) else []))), (.int .i64 ((bif validB l && nameB node then 0 else 1)))]) []
  | _ => none
theorem spOk : SpOk Try.prog E 47 sp where
  det := fun vs => by
    unfold sp
    split
    · exact ⟨some (_, _), fun _ => rfl⟩
    · exact ⟨none, fun _ => rfl⟩
  ok := fun vs k r h => by
    unfold sp at h
    split at h
    · exact ⟨_, _, spec _ _, h⟩
    · cases h
end ofM
end Go.Proofs.Ytkeplmpcijigaaa
