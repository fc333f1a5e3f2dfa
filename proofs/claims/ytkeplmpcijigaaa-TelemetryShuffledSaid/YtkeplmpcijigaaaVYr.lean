/- Missing: the document's. The law TelemetrySeries. -/
import Derived.Test.YtkeplmpcijigaaaVY
import Derived.Test.YtkeplmpcijigaaaVF
namespace Go.Proofs.Ytkeplmpcijigaaa
set_option linter.unusedSectionVars false
set_option linter.unusedSimpArgs false
set_option linter.unusedVariables false
set_option maxRecDepth 100000

theorem mem_rangeZ : ∀ (k : Nat) (a x : Int), x ∈ rangeZ a k ↔ a ≤ x ∧ x < a + k := by
  intro k
  induction k with
  | zero => intro a x; first | (simp [rangeZ]; done) | (simp [rangeZ]; omega)
  | succ k ih => intro a x; simp only [rangeZ, List.mem_cons, ih]; omega
theorem rangeZ_add : ∀ (m k : Nat) (a : Int), rangeZ a (m + k) = rangeZ a m ++ rangeZ (a + m) k := by
  intro m
  induction m with
  | zero => intro k a; simp [rangeZ]
  | succ m ih =>
    intro k a
    rw [show m + 1 + k = (m + k) + 1 by omega]
    simp only [rangeZ, List.cons_append]
    rw [ih k (a + 1), show a + 1 + (m : Int) = a + ((m + 1 : Nat) : Int) by omega]
theorem filter_range (p : Int → Bool) : ∀ (r : List Int) (a : Int), (a :: r).Pairwise (fun x y => x < y) → (∀ x, a ≤ x → (p x = false ↔ x ∈ a :: r)) → (rangeZ a (lastZ (a :: r) - a + 1).toNat).filter p = gaps (a :: r) := by
  intro r
  induction r with
  | nil =>
    intro a _ hp
    have h1 : lastZ [a] = a := rfl
    rw [h1, show (a - a + 1).toNat = 1 by omega]
    simp [rangeZ, gaps, (hp a (Int.le_refl _)).2 (by simp)]
  | cons b r ih =>
    intro a h hp
    obtain ⟨h1, h2⟩ := List.pairwise_cons.1 h
    have hab := h1 b (by simp)
    have hz := (gaps_length r b h2).1
    have hpb : ∀ x, b ≤ x → (p x = false ↔ x ∈ b :: r) := fun x hx => by
      rw [hp x (by omega), List.mem_cons]
      constructor
      · rintro (rfl | h)
        · omega
        · exact h
      · exact .inr
    rw [lastZ_cons, show (lastZ (b :: r) - a + 1).toNat = (1 + (b - a - 1).toNat) + (lastZ (b :: r) - b + 1).toNat by omega, rangeZ_add, List.filter_append, show a + ((1 + (b - a - 1).toNat : Nat) : Int) = b by omega, ih b h2 hpb, rangeZ_add, List.filter_append]
    have e1 : (rangeZ a 1).filter p = [] := by simp [rangeZ, (hp a (Int.le_refl _)).2 (by simp)]
    have e2 : (rangeZ (a + ((1 : Nat) : Int)) (b - a - 1).toNat).filter p = rangeZ (a + ((1 : Nat) : Int)) (b - a - 1).toNat := List.filter_eq_self.2 fun x hx => by
      have hr := (mem_rangeZ _ _ _).1 hx
      cases hpx : p x
      · have := (hp x (by omega)).1 hpx
        rcases List.mem_cons.1 this with rfl | hm
        · omega
        · rcases List.mem_cons.1 hm with rfl | hm
          · omega
          · have := (List.pairwise_cons.1 h2).1 x hm
            omega
      · rfl
    rw [e1, e2, List.nil_append]
    rfl
theorem first_last {S : List Int} (hS : S.Pairwise (fun x y => x < y)) (h : 0 < S.length) : (∀ n, n ∈ S → List.getD S 0 0 ≤ n ∧ n ≤ lastZ S) ∧ List.getD S 0 0 ∈ S ∧ lastZ S ∈ S := by
  refine ⟨fun n hn => ?_, mem_of_getD h, mem_of_getD (by omega)⟩
  obtain ⟨i, hi, rfl⟩ := List.mem_iff_getElem.1 hn
  unfold lastZ
  rw [getD_lt h, getD_lt (show S.length - 1 < S.length by omega)]
  constructor
  · by_cases h0 : i = 0
    · subst h0; exact Int.le_refl _
    · exact Int.le_of_lt (List.pairwise_iff_getElem.1 hS 0 i h hi (by omega))
  · by_cases h0 : i = S.length - 1
    · subst h0; exact Int.le_refl _
    · exact Int.le_of_lt (List.pairwise_iff_getElem.1 hS i (S.length - 1) hi (by omega) (by omega))

def Mm (l : List Msg) (node : List UInt8) (k : Nat) (a z : Int) : Prop :=
  (a = 1073741825 ∧ z = -1 ∧ ∀ m, m ∈ l.take k → m.nd ≠ node) ∨ ((∃ m, m ∈ l.take k ∧ m.nd = node ∧ m.no = a) ∧ (∃ m, m ∈ l.take k ∧ m.nd = node ∧ m.no = z) ∧ ∀ m, m ∈ l.take k → m.nd = node → a ≤ m.no ∧ m.no ≤ z)
namespace rmiss
noncomputable def bd : Code := (Try.f32.body).getD .skip
noncomputable def X : Ctx U El := ⟨E, tds, zeros, eqs, specOf [(24, rhas.sp), (50, rgiven.sp)], 100000, 84, dspecOf [], fun _ => none⟩
noncomputable def nmR : Norm U := ⟨[(4, .int)], [4, 5], [4], [], [], [], []⟩
noncomputable def RR : Kont U El := fun st => normK nmR st (retFin [4, 5] [4])
noncomputable def nm1 : Norm U := ⟨[], [0, 1, 6, 7], [], [], [], [], []⟩
noncomputable def nm2 : Norm U := ⟨[], [0, 1, 6, 7, 8], [], [], [], [], []⟩
noncomputable def nm3 : Norm U := ⟨[], [0, 1, 6, 7, 8], [], [], [], [], []⟩
noncomputable def nm4 : Norm U := ⟨[], [0, 1, 6, 7, 8], [], [], [], [], []⟩
noncomputable def nm5 : Norm U := ⟨[(9, .int)], [9], [9], [], [], [], []⟩
noncomputable def nm6 : Norm U := ⟨[(9, .int)], [0, 1, 7, 9, 10], [9], [], [], [], []⟩
noncomputable def nm7 : Norm U := ⟨[(9, .int)], [0, 1, 7, 9, 10], [9], [], [], [], []⟩
noncomputable def fr0 (l : List Msg) (node : List UInt8) : St U El := ⟨[(0, (.lst .msg l)), (1, (.str node))], []⟩
noncomputable def fr1 (l0 : List Msg) (node1 : List UInt8) (least6 : Int) (most7 : Int) : St U El := ⟨[(0, (.lst .msg l0)), (1, (.str node1)), (6, (.int .i64 least6)), (7, (.int .i64 most7))], []⟩
noncomputable def fr2 (l0 : List Msg) (node1 : List UInt8) (least6 : Int) (most7 : Int) (i8 : Int) : St U El := ⟨[(0, (.lst .msg l0)), (1, (.str node1)), (6, (.int .i64 least6)), (7, (.int .i64 most7)), (8, (.int .i64 i8))], []⟩
noncomputable def fr3 (l0 : List Msg) (node1 : List UInt8) (least6 : Int) (most7 : Int) (i8 : Int) : St U El := ⟨[(0, (.lst .msg l0)), (1, (.str node1)), (6, (.int .i64 least6)), (7, (.int .i64 most7)), (8, (.int .i64 i8))], []⟩
noncomputable def fr4 (l0 : List Msg) (node1 : List UInt8) (least6 : Int) (most7 : Int) (i8 : Int) : St U El := ⟨[(0, (.lst .msg l0)), (1, (.str node1)), (6, (.int .i64 least6)), (7, (.int .i64 most7)), (8, (.int .i64 i8))], []⟩
noncomputable def fr5 (out9 : List Int) : St U El := ⟨[(9, (.ful 9))], [(9, (.rows .int out9))]⟩
noncomputable def fr6 (l0 : List Msg) (node1 : List UInt8) (most7 : Int) (out9 : List Int) (n10 : Int) : St U El := ⟨[(0, (.lst .msg l0)), (1, (.str node1)), (7, (.int .i64 most7)), (9, (.ful 9)), (10, (.int .i64 n10))], [(9, (.rows .int out9))]⟩
noncomputable def fr7 (l0 : List Msg) (node1 : List UInt8) (most7 : Int) (out9 : List Int) (n10 : Int) : St U El := ⟨[(0, (.lst .msg l0)), (1, (.str node1)), (7, (.int .i64 most7)), (9, (.ful 9)), (10, (.int .i64 n10))], [(9, (.rows .int out9))]⟩
noncomputable def sh0 (l : List Msg) (node : List UInt8) (k2 : (List Msg) → (List UInt8) → Int → Int → Int → R) : R :=
  condB (((bif validB l && nameB node then 0 else 1)) != (0 : Int)) (some ((.tup [(.ful 0), (.int .i64 ((bif validB l && nameB node then 0 else 1)))]), [(0, .rows .int ([] : List Int))])) (k2 l node (1073741825 : Int) (-1 : Int) (0 : Int))
noncomputable def sh1 (l0 : List Msg) (node1 : List UInt8) (least6 : Int) (most7 : Int) (k6 : (List Msg) → (List UInt8) → Int → (List Int) → Int → R) : R :=
  condB (ilt most7 (0 : Int)) (some ((.tup [(.ful 0), (.int .i64 (12 : Int))]), [(0, .rows .int ([] : List Int))])) (condB (ilt (IntKind.wrap .i64 ((Int.ofNat (List.length l0)) + (1000 : Int))) (IntKind.wrap .i64 ((IntKind.wrap .i64 (most7 - least6)) + (1 : Int)))) (some ((.tup [(.ful 0), (.int .i64 (4 : Int))]), [(0, .rows .int ([] : List Int))])) (k6 l0 node1 most7 ([] : List Int) least6))
noncomputable def sh2 (l0 : List Msg) (node1 : List UInt8) (least6 : Int) (most7 : Int) (i8 : Int) (k1 : (List Msg) → (List UInt8) → Int → Int → R) (k3 : (List Msg) → (List UInt8) → Int → Int → Int → R) (k4 : (List Msg) → (List UInt8) → Int → Int → Int → R) : R :=
  condB (ilt i8 (Int.ofNat (List.length l0))) (chk (inb i8 (List.length l0)) (condB (!(((List.getD l0 (Int.toNat i8) d_msg).nd) == node1)) (k3 l0 node1 least6 most7 i8) (chk (inb i8 (List.length l0)) (condB (ilt ((List.getD l0 (Int.toNat i8) d_msg).no) least6) (chk (inb i8 (List.length l0)) (k4 l0 node1 ((List.getD l0 (Int.toNat i8) d_msg).no) most7 i8)) (k4 l0 node1 least6 most7 i8))))) (k1 l0 node1 least6 most7)
noncomputable def sh3 (l0 : List Msg) (node1 : List UInt8) (least6 : Int) (most7 : Int) (i8 : Int) (k2 : (List Msg) → (List UInt8) → Int → Int → Int → R) : R :=
  k2 l0 node1 least6 most7 (IntKind.wrap .i64 (i8 + (1 : Int)))
noncomputable def sh4 (l0 : List Msg) (node1 : List UInt8) (least6 : Int) (most7 : Int) (i8 : Int) (k3 : (List Msg) → (List UInt8) → Int → Int → Int → R) : R :=
  chk (inb i8 (List.length l0)) (condB (ilt most7 ((List.getD l0 (Int.toNat i8) d_msg).no)) (chk (inb i8 (List.length l0)) (k3 l0 node1 least6 ((List.getD l0 (Int.toNat i8) d_msg).no) i8)) (k3 l0 node1 least6 most7 i8))
noncomputable def sh5 (out9 : List Int) : R :=
  condB (ilt (1000 : Int) (Int.ofNat (List.length out9))) (some ((.tup [(.ful 0), (.int .i64 (4 : Int))]), [(0, .rows .int ([] : List Int))])) (some ((.tup [(.ful 0), (.int .i64 (0 : Int))]), [(0, .rows .int out9)]))
noncomputable def sh6 (l0 : List Msg) (node1 : List UInt8) (most7 : Int) (out9 : List Int) (n10 : Int) (k5 : (List Int) → R) (k7 : (List Msg) → (List UInt8) → Int → (List Int) → Int → R) : R :=
  condB (ile n10 most7) (chk (nle (List.length l0) 90000) (condB (!(hasB l0 node1 n10)) (chk (nle ((List.length out9 + List.length ([n10] : List Int)) * 8) 140737488355328 && nle (List.length out9 + List.length ([n10] : List Int)) 9223372036854775807) (k7 l0 node1 most7 (out9 ++ ([n10] : List Int)) n10)) (k7 l0 node1 most7 out9 n10))) (k5 out9)
noncomputable def sh7 (l0 : List Msg) (node1 : List UInt8) (most7 : Int) (out9 : List Int) (n10 : Int) (k6 : (List Msg) → (List UInt8) → Int → (List Int) → Int → R) : R :=
  k6 l0 node1 most7 out9 (IntKind.wrap .i64 (n10 + (1 : Int)))
noncomputable def it2 (Kb1 : Kont U El) (n : Nat) : Kont U El := iter nm2 (fun st' K' => exec X (cdp [1, 1, 1, 0, 1, 0, 0] bd) (.seq none .d (.seq (some nm3) (.block (.seq none .d (.seq (some nm4) .d .d))) .d)) st' K' (Eblk 0 (cutK nm1 Kb1) (fun _ _ => none)) RR) n
noncomputable def it6 (Kb5 : Kont U El) (n : Nat) : Kont U El := iter nm6 (fun st' K' => exec X (cdp [1, 1, 1, 1, 1, 1, 1, 0, 1, 0, 0] bd) (.seq none .d (.seq (some nm7) .d .d)) st' K' (Eblk 2 (cutK nm5 Kb5) (fun _ _ => none)) RR) n
noncomputable def ct1 : Kont U El := fun st => exec X (cdp [1, 1, 1, 1] bd) (.seq none .d (.seq none .d (.seq none .d (.seq (some nm5) (.seq none .d (.block (.loop nm6 (.seq none .d (.seq (some nm7) .d .d))))) .d)))) st RR (fun _ _ => none) RR
noncomputable def ct3 (Kb1 : Kont U El) (Kb2 : Kont U El) : Kont U El := fun st => exec X (cdp [1, 1, 1, 0, 1, 0, 0, 1, 1] bd) .d st (cutK nm2 Kb2) (Eblk 0 (cutK nm1 Kb1) (fun _ _ => none)) RR
noncomputable def ct4 (Kb1 : Kont U El) (Kb3 : Kont U El) : Kont U El := fun st => exec X (cdp [1, 1, 1, 0, 1, 0, 0, 1, 0, 0, 1, 1] bd) .d st (cutK nm3 Kb3) (Eblk 1 (cutK nm3 Kb3) (Eblk 0 (cutK nm1 Kb1) (fun _ _ => none))) RR
noncomputable def ct5 : Kont U El := fun st => exec X (cdp [1, 1, 1, 1, 1, 1, 1, 1] bd) .d st RR (fun _ _ => none) RR
noncomputable def ct7 (Kb5 : Kont U El) (Kb6 : Kont U El) : Kont U El := fun st => exec X (cdp [1, 1, 1, 1, 1, 1, 1, 0, 1, 0, 0, 1, 1] bd) .d st (cutK nm6 Kb6) (Eblk 2 (cutK nm5 Kb5) (fun _ _ => none)) RR
theorem P0 (l : List Msg) (node : List UInt8) : exec X (cdp [] bd) (.seq none .d (.seq none .d (.seq none .d (.seq (some nm1) (.seq none .d (.block (.loop nm2 (.seq none .d (.seq (some nm3) (.block (.seq none .d (.seq (some nm4) .d .d))) .d))))) (.seq none .d (.seq none .d (.seq none .d (.seq (some nm5) (.seq none .d (.block (.loop nm6 (.seq none .d (.seq (some nm7) .d .d))))) .d)))))))) (fr0 l node) RR (fun _ _ => none) RR = sh0 l node (fun y0 y1 y2 y3 y4 => (hid (it2 (hid ct1) 100000)) (fr2 y0 y1 y2 y3 y4)) := by kernel_rfl
theorem P1 (l0 : List Msg) (node1 : List UInt8) (least6 : Int) (most7 : Int) : exec X (cdp [1, 1, 1, 1] bd) (.seq none .d (.seq none .d (.seq none .d (.seq (some nm5) (.seq none .d (.block (.loop nm6 (.seq none .d (.seq (some nm7) .d .d))))) .d)))) (fr1 l0 node1 least6 most7) RR (fun _ _ => none) RR = sh1 l0 node1 least6 most7 (fun y0 y1 y2 y3 y4 => (hid (it6 (hid ct5) 100000)) (fr6 y0 y1 y2 y3 y4)) := by kernel_rfl
theorem P2 (l0 : List Msg) (node1 : List UInt8) (least6 : Int) (most7 : Int) (i8 : Int) (Kb1 : Kont U El) (Kb2 : Kont U El) : exec X (cdp [1, 1, 1, 0, 1, 0, 0] bd) (.seq none .d (.seq (some nm3) (.block (.seq none .d (.seq (some nm4) .d .d))) .d)) (fr2 l0 node1 least6 most7 i8) (cutK nm2 Kb2) (Eblk 0 (cutK nm1 Kb1) (fun _ _ => none)) RR = sh2 l0 node1 least6 most7 i8 (fun y0 y1 y2 y3 => Kb1 (fr1 y0 y1 y2 y3)) (fun y0 y1 y2 y3 y4 => (hid (ct3 Kb1 Kb2)) (fr3 y0 y1 y2 y3 y4)) (fun y0 y1 y2 y3 y4 => (hid (ct4 Kb1 (hid (ct3 Kb1 Kb2)))) (fr4 y0 y1 y2 y3 y4)) := by kernel_rfl
theorem P3 (l0 : List Msg) (node1 : List UInt8) (least6 : Int) (most7 : Int) (i8 : Int) (Kb1 : Kont U El) (Kb2 : Kont U El) : exec X (cdp [1, 1, 1, 0, 1, 0, 0, 1, 1] bd) .d (fr3 l0 node1 least6 most7 i8) (cutK nm2 Kb2) (Eblk 0 (cutK nm1 Kb1) (fun _ _ => none)) RR = sh3 l0 node1 least6 most7 i8 (fun y0 y1 y2 y3 y4 => Kb2 (fr2 y0 y1 y2 y3 y4)) := by kernel_rfl
theorem P4 (l0 : List Msg) (node1 : List UInt8) (least6 : Int) (most7 : Int) (i8 : Int) (Kb1 : Kont U El) (Kb3 : Kont U El) : exec X (cdp [1, 1, 1, 0, 1, 0, 0, 1, 0, 0, 1, 1] bd) .d (fr4 l0 node1 least6 most7 i8) (cutK nm3 Kb3) (Eblk 1 (cutK nm3 Kb3) (Eblk 0 (cutK nm1 Kb1) (fun _ _ => none))) RR = sh4 l0 node1 least6 most7 i8 (fun y0 y1 y2 y3 y4 => Kb3 (fr3 y0 y1 y2 y3 y4)) := by kernel_rfl
theorem P5 (out9 : List Int) : exec X (cdp [1, 1, 1, 1, 1, 1, 1, 1] bd) .d (fr5 out9) RR (fun _ _ => none) RR = sh5 out9 := by kernel_rfl
theorem P6 (l0 : List Msg) (node1 : List UInt8) (most7 : Int) (out9 : List Int) (n10 : Int) (Kb5 : Kont U El) (Kb6 : Kont U El) : exec X (cdp [1, 1, 1, 1, 1, 1, 1, 0, 1, 0, 0] bd) (.seq none .d (.seq (some nm7) .d .d)) (fr6 l0 node1 most7 out9 n10) (cutK nm6 Kb6) (Eblk 2 (cutK nm5 Kb5) (fun _ _ => none)) RR = sh6 l0 node1 most7 out9 n10 (fun y0 => Kb5 (fr5 y0)) (fun y0 y1 y2 y3 y4 => (hid (ct7 Kb5 Kb6)) (fr7 y0 y1 y2 y3 y4)) := by kernel_rfl
theorem P7 (l0 : List Msg) (node1 : List UInt8) (most7 : Int) (out9 : List Int) (n10 : Int) (Kb5 : Kont U El) (Kb6 : Kont U El) : exec X (cdp [1, 1, 1, 1, 1, 1, 1, 0, 1, 0, 0, 1, 1] bd) .d (fr7 l0 node1 most7 out9 n10) (cutK nm6 Kb6) (Eblk 2 (cutK nm5 Kb5) (fun _ _ => none)) RR = sh7 l0 node1 most7 out9 n10 (fun y0 y1 y2 y3 y4 => Kb6 (fr6 y0 y1 y2 y3 y4)) := by kernel_rfl
noncomputable def f5 (out9 : List Int) : R := sh5 out9
noncomputable def f7 (k6 : (List Msg) → (List UInt8) → Int → (List Int) → Int → R) (l0 : List Msg) (node1 : List UInt8) (most7 : Int) (out9 : List Int) (n10 : Int) : R := sh7 l0 node1 most7 out9 n10 k6
noncomputable def f6 : Nat → (List Msg) → (List UInt8) → Int → (List Int) → Int → R
  | 0 => fun _ _ _ _ _ => none
  | n + 1 => fun l0 node1 most7 out9 n10 => sh6 l0 node1 most7 out9 n10 f5 (f7 (f6 n))
noncomputable def f1 (l0 : List Msg) (node1 : List UInt8) (least6 : Int) (most7 : Int) : R := sh1 l0 node1 least6 most7 (f6 100000)
noncomputable def f3 (k2 : (List Msg) → (List UInt8) → Int → Int → Int → R) (l0 : List Msg) (node1 : List UInt8) (least6 : Int) (most7 : Int) (i8 : Int) : R := sh3 l0 node1 least6 most7 i8 k2
noncomputable def f4 (k2 : (List Msg) → (List UInt8) → Int → Int → Int → R) (l0 : List Msg) (node1 : List UInt8) (least6 : Int) (most7 : Int) (i8 : Int) : R := sh4 l0 node1 least6 most7 i8 (f3 k2)
noncomputable def f2 : Nat → (List Msg) → (List UInt8) → Int → Int → Int → R
  | 0 => fun _ _ _ _ _ => none
  | n + 1 => fun l0 node1 least6 most7 i8 => sh2 l0 node1 least6 most7 i8 f1 (f3 (f2 n)) (f4 (f2 n))
noncomputable def f0 (l : List Msg) (node : List UInt8) : R := sh0 l node (f2 100000)
theorem T5 (out9 : List Int) : (hid ct5) (fr5 out9) = f5 out9 := by
  refine (congrFun (hid_eq _) _).trans <| (P5 out9).trans ?_
  show _ = sh5 out9
  rfl
theorem T7 (KL6 : Kont U El) (k6 : (List Msg) → (List UInt8) → Int → (List Int) → Int → R) (h6 : ∀ l0 node1 most7 out9 n10, KL6 (fr6 l0 node1 most7 out9 n10) = k6 l0 node1 most7 out9 n10) (l0 : List Msg) (node1 : List UInt8) (most7 : Int) (out9 : List Int) (n10 : Int) : (hid (ct7 (hid ct5) KL6)) (fr7 l0 node1 most7 out9 n10) = f7 k6 l0 node1 most7 out9 n10 := by
  refine (congrFun (hid_eq _) _).trans <| (P7 l0 node1 most7 out9 n10 (hid ct5) KL6).trans ?_
  show _ = sh7 l0 node1 most7 out9 n10 k6
  simp only [h6]
theorem T6 : ∀ (n : Nat), ∀ l0 node1 most7 out9 n10, it6 (hid ct5) n (fr6 l0 node1 most7 out9 n10) = f6 n l0 node1 most7 out9 n10 := by
  intro n
  induction n with
  | zero => intros; rfl
  | succ n ih =>
    intro l0 node1 most7 out9 n10
    refine (P6 l0 node1 most7 out9 n10 (hid ct5) (it6 (hid ct5) n)).trans ?_
    show _ = sh6 l0 node1 most7 out9 n10 f5 (f7 (f6 n))
    simp only [T5, T7 (it6 (hid ct5) n) (f6 n) ih]
theorem H6 (l0 : List Msg) (node1 : List UInt8) (most7 : Int) (out9 : List Int) (n10 : Int) : hid (it6 (hid ct5) 100000) (fr6 l0 node1 most7 out9 n10) = f6 100000 l0 node1 most7 out9 n10 := (congrFun (hid_eq _) _).trans (T6 100000 l0 node1 most7 out9 n10)
theorem T1 (l0 : List Msg) (node1 : List UInt8) (least6 : Int) (most7 : Int) : (hid ct1) (fr1 l0 node1 least6 most7) = f1 l0 node1 least6 most7 := by
  refine (congrFun (hid_eq _) _).trans <| (P1 l0 node1 least6 most7).trans ?_
  show _ = sh1 l0 node1 least6 most7 (f6 100000)
  simp only [H6]
theorem T3 (KL2 : Kont U El) (k2 : (List Msg) → (List UInt8) → Int → Int → Int → R) (h2 : ∀ l0 node1 least6 most7 i8, KL2 (fr2 l0 node1 least6 most7 i8) = k2 l0 node1 least6 most7 i8) (l0 : List Msg) (node1 : List UInt8) (least6 : Int) (most7 : Int) (i8 : Int) : (hid (ct3 (hid ct1) KL2)) (fr3 l0 node1 least6 most7 i8) = f3 k2 l0 node1 least6 most7 i8 := by
  refine (congrFun (hid_eq _) _).trans <| (P3 l0 node1 least6 most7 i8 (hid ct1) KL2).trans ?_
  show _ = sh3 l0 node1 least6 most7 i8 k2
  simp only [h2]
theorem T4 (KL2 : Kont U El) (k2 : (List Msg) → (List UInt8) → Int → Int → Int → R) (h2 : ∀ l0 node1 least6 most7 i8, KL2 (fr2 l0 node1 least6 most7 i8) = k2 l0 node1 least6 most7 i8) (l0 : List Msg) (node1 : List UInt8) (least6 : Int) (most7 : Int) (i8 : Int) : (hid (ct4 (hid ct1) (hid (ct3 (hid ct1) KL2)))) (fr4 l0 node1 least6 most7 i8) = f4 k2 l0 node1 least6 most7 i8 := by
  refine (congrFun (hid_eq _) _).trans <| (P4 l0 node1 least6 most7 i8 (hid ct1) (hid (ct3 (hid ct1) KL2))).trans ?_
  show _ = sh4 l0 node1 least6 most7 i8 (f3 k2)
  simp only [T3 KL2 k2 h2]
theorem T2 : ∀ (n : Nat), ∀ l0 node1 least6 most7 i8, it2 (hid ct1) n (fr2 l0 node1 least6 most7 i8) = f2 n l0 node1 least6 most7 i8 := by
  intro n
  induction n with
  | zero => intros; rfl
  | succ n ih =>
    intro l0 node1 least6 most7 i8
    refine (P2 l0 node1 least6 most7 i8 (hid ct1) (it2 (hid ct1) n)).trans ?_
    show _ = sh2 l0 node1 least6 most7 i8 f1 (f3 (f2 n)) (f4 (f2 n))
    simp only [T1, T3 (it2 (hid ct1) n) (f2 n) ih, T4 (it2 (hid ct1) n) (f2 n) ih]
theorem H2 (l0 : List Msg) (node1 : List UInt8) (least6 : Int) (most7 : Int) (i8 : Int) : hid (it2 (hid ct1) 100000) (fr2 l0 node1 least6 most7 i8) = f2 100000 l0 node1 least6 most7 i8 := (congrFun (hid_eq _) _).trans (T2 100000 l0 node1 least6 most7 i8)
theorem T0 (l : List Msg) (node : List UInt8) : exec X bd (.seq none .d (.seq none .d (.seq none .d (.seq (some nm1) (.seq none .d (.block (.loop nm2 (.seq none .d (.seq (some nm3) (.block (.seq none .d (.seq (some nm4) .d .d))) .d))))) (.seq none .d (.seq none .d (.seq none .d (.seq (some nm5) (.seq none .d (.block (.loop nm6 (.seq none .d (.seq (some nm7) .d .d))))) .d)))))))) (fr0 l node) RR (fun _ _ => none) RR = f0 l node := by
  refine (P0 l node).trans ?_
  show _ = sh0 l node (f2 100000)
  simp only [H2]
theorem run (l : List Msg) (node : List UInt8) : runFn X bd (.seq none .d (.seq none .d (.seq none .d (.seq (some nm1) (.seq none .d (.block (.loop nm2 (.seq none .d (.seq (some nm3) (.block (.seq none .d (.seq (some nm4) .d .d))) .d))))) (.seq none .d (.seq none .d (.seq none .d (.seq (some nm5) (.seq none .d (.block (.loop nm6 (.seq none .d (.seq (some nm7) .d .d))))) .d)))))))) nmR [4, 5] [4] [(.lst .msg l), (.str node)] = f0 l node := T0 l node
theorem scan (l : List Msg) (node : List UInt8) (hl : l.length ≤ 10000) (hr : ∀ m, m ∈ l → 0 ≤ m.no ∧ m.no ≤ 1073741824) : ∀ (n i : Nat) (a z : Int), l.length < n + i → i ≤ l.length → Mm l node i a z → ∃ a' z', Mm l node l.length a' z' ∧ f2 n l node a z (i : Int) = f1 l node a' z' := by
  intro n
  induction n with
  | zero => intro i a z h1 h2; omega
  | succ n ih =>
    intro i a z h1 h2 hm
    by_cases hi : i < l.length
    · have nxt : ∀ a' z', Mm l node (i + 1) a' z' → ∃ a'' z'', Mm l node l.length a'' z'' ∧ f3 (f2 n) l node a' z' (i : Int) = f1 l node a'' z'' := fun a' z' h => by
        obtain ⟨a'', z'', h3, h4⟩ := ih (i + 1) a' z' (by omega) hi h
        refine ⟨a'', z'', h3, ?_⟩
        show f2 n l node a' z' (IntKind.wrap .i64 ((i : Int) + 1)) = _
        rw [wrapS i (by omega)]
        exact h4
      have hmem : ∀ m, m ∈ l.take (i + 1) ↔ m ∈ l.take i ∨ m = l[i] := fun m => by
        rw [take_lt hi, List.mem_append, List.mem_singleton]
      have hri := hr _ (List.getElem_mem hi)
      show ∃ a' z', _ ∧ sh2 l node a z (i : Int) f1 (f3 (f2 n)) (f4 (f2 n)) = _
      unfold sh2
      rw [iltT (show (i : Int) < Int.ofNat l.length by simp; omega), inbT hi, toNat_nat, getD_lt hi]
      simp only [condT, chkT]
      cases hn : (l[i].nd == node)
      · have hn' : l[i].nd ≠ node := by simpa using hn
        refine nxt a z ?_
        rcases hm with ⟨e1, e2, h⟩ | ⟨⟨m1, p1, p2, p3⟩, ⟨m2, q1, q2, q3⟩, h⟩
        · exact .inl ⟨e1, e2, fun m hm => by rcases (hmem m).1 hm with hm | rfl; exact h m hm; exact hn'⟩
        · exact .inr ⟨⟨m1, (hmem _).2 (.inl p1), p2, p3⟩, ⟨m2, (hmem _).2 (.inl q1), q2, q3⟩, fun m hm he => by rcases (hmem m).1 hm with hm | rfl; exact h m hm he; exact absurd he hn'⟩
      · have hn' : l[i].nd = node := by simpa using hn
        rw [Bool.not_true, condF]
        -- the least, the greatest
        have up : ∀ a', (a' = l[i].no ∧ l[i].no < a ∨ a' = a ∧ ¬ l[i].no < a) → ∃ a'' z'', Mm l node l.length a'' z'' ∧ f4 (f2 n) l node a' z (i : Int) = f1 l node a'' z'' := fun a' ha' => by
          have fin : ∀ z', (z' = l[i].no ∧ z < l[i].no ∨ z' = z ∧ ¬ z < l[i].no) → Mm l node (i + 1) a' z' := fun z' hz' => by
            right
            rcases hm with ⟨e1, e2, h⟩ | ⟨⟨m1, p1, p2, p3⟩, ⟨m2, q1, q2, q3⟩, h⟩
            · refine ⟨⟨l[i], (hmem _).2 (.inr rfl), hn', by omega⟩, ⟨l[i], (hmem _).2 (.inr rfl), hn', by omega⟩, fun m hm he => ?_⟩
              rcases (hmem m).1 hm with hm | rfl
              · exact absurd he (h m hm)
              · omega
            · refine ⟨?_, ?_, fun m hm he => ?_⟩
              · rcases ha' with ⟨e, _⟩ | ⟨e, _⟩
                · exact ⟨l[i], (hmem _).2 (.inr rfl), hn', e.symm⟩
                · exact ⟨m1, (hmem _).2 (.inl p1), p2, by omega⟩
              · rcases hz' with ⟨e, _⟩ | ⟨e, _⟩
                · exact ⟨l[i], (hmem _).2 (.inr rfl), hn', e.symm⟩
                · exact ⟨m2, (hmem _).2 (.inl q1), q2, by omega⟩
              · rcases (hmem m).1 hm with hm | rfl
                · have := h m hm he; omega
                · have := h m1 p1 p2; omega
          show ∃ a'' z'', _ ∧ sh4 l node a' z (i : Int) (f3 (f2 n)) = _
          unfold sh4
          rw [inbT hi, toNat_nat, getD_lt hi, chkT]
          by_cases hz : z < l[i].no
          · rw [iltT hz]; exact nxt a' _ (fin _ (.inl ⟨rfl, hz⟩))
          · rw [iltF hz]; exact nxt a' _ (fin _ (.inr ⟨rfl, hz⟩))
        by_cases ha : l[i].no < a
        · rw [iltT ha]; exact up _ (.inl ⟨rfl, ha⟩)
        · rw [iltF ha]; exact up _ (.inr ⟨rfl, ha⟩)
    · have : i = l.length := by omega
      subst this
      refine ⟨a, z, hm, ?_⟩
      show sh2 l node a z (l.length : Int) f1 (f3 (f2 n)) (f4 (f2 n)) = _
      unfold sh2
      rw [iltF (by simp)]
      rfl
theorem loop (l : List Msg) (hl : l.length ≤ 10000) (node : List UInt8) (z : Int) (hz : z ≤ 1073741824) : ∀ (n k : Nat) (a : Int) (out : List Int), (z - a + 1).toNat = k → k < n → 0 ≤ a → a ≤ z + 1 → out.length + k ≤ 20000 → f6 n l node z out a = f5 (out ++ (rangeZ a k).filter fun x => !(hasB l node x)) := by
  intro n
  induction n with
  | zero => intro k a out h1 h2; omega
  | succ n ih =>
    intro k a out h1 h2 h3 h4 h5
    show sh6 l node z out a f5 (f7 (f6 n)) = _
    unfold sh6
    by_cases hk : a ≤ z
    · obtain ⟨k', rfl⟩ : ∃ k', k = k' + 1 := ⟨k - 1, by omega⟩
      have nx : ∀ out' : List Int, out'.length ≤ out.length + 1 → f7 (f6 n) l node z out' a = f5 (out' ++ (rangeZ (a + 1) k').filter fun x => !(hasB l node x)) := fun out' ho => by
        show f6 n l node z out' (IntKind.wrap .i64 (a + 1)) = _
        rw [wrapI (by omega) (by omega)]
        exact ih k' (a + 1) out' (by omega) (by omega) (by omega) (by omega) (by omega)
      rw [ileT hk, condT, nleT (show l.length ≤ 90000 by omega), chkT, capI (by omega), chkT, nx _ (by simp), nx out (by omega)]
      simp only [rangeZ, List.filter_cons]
      cases hasB l node a
      · simp [condT]
      · simp [condF]
    · have : k = 0 := by omega
      subst this
      rw [ileF hk, condF]
      simp [rangeZ]
theorem f0_eq (l : List Msg) (node : List UInt8) : f0 l node = some (.tup [.ful 0, .int .i64 (misE l node)], [(0, .rows .int (misL l node))]) := by
  show sh0 l node (f2 100000) = _
  unfold sh0 misL misE
  cases hvn : validB l && nameB node
  · rfl
  simp only [cond_true, Bool.not_true, cond_false]
  rw [show ((0 : Int) != (0 : Int)) = false from rfl, condF]
  rw [Bool.and_eq_true] at hvn
  have hlen := (valid_keys hvn.1).2
  obtain ⟨n1, n2, n3, n4⟩ := nos_facts (node := node) hvn.1
  have hr : ∀ m, m ∈ l → 0 ≤ m.no ∧ m.no ≤ 1073741824 := fun m hm => by
    have hv := hvn.1
    unfold validB at hv
    rw [Bool.and_eq_true] at hv
    have h3 := validL_right l [] hv.2 m hm
    simp only [rightB, Bool.and_eq_true] at h3
    exact ⟨ileI h3.2.1.1, ileI h3.2.1.2⟩
  have hin : ∀ n, n ∈ nosL l node ↔ ∃ m, m ∈ l ∧ m.nd = node ∧ m.no = n := fun n => by
    rw [n2]
    unfold hasB
    rw [List.any_eq_true]
    constructor
    · rintro ⟨m, h1, h2⟩
      simp only [Bool.and_eq_true, beq_iff_eq] at h2
      exact ⟨m, h1, h2.1, h2.2⟩
    · rintro ⟨m, h1, h2, h3⟩; exact ⟨m, h1, by simp [h2, h3]⟩
  obtain ⟨a, z, hm, e⟩ := scan l node hlen hr 100000 0 1073741825 (-1) (by omega) (by omega) (.inl ⟨rfl, rfl, fun m hm => by simp at hm⟩)
  refine e.trans ?_
  show sh1 l node a z (f6 100000) = _
  unfold sh1
  unfold Mm at hm
  rw [List.take_length] at hm
  rcases hm with ⟨rfl, rfl, h⟩ | ⟨⟨m1, p1, p2, p3⟩, ⟨m2, q1, q2, q3⟩, h⟩
  · have h0 : nosL l node = [] := by
      cases hS : nosL l node with
      | nil => rfl
      | cons x S =>
        obtain ⟨m, h1, h2, _⟩ := (hin x).1 (by rw [hS]; simp)
        exact absurd h2 (h m h1)
    rw [h0]
    rfl
  · have ha : a ∈ nosL l node := (hin a).2 ⟨m1, p1, p2, p3⟩
    have hz : z ∈ nosL l node := (hin z).2 ⟨m2, q1, q2, q3⟩
    have hpos : 0 < (nosL l node).length := List.length_pos_of_mem ha
    obtain ⟨f1', f2', f3'⟩ := first_last n1 hpos
    have ea : List.getD (nosL l node) 0 0 = a := by
      obtain ⟨m, g1, g2, g3⟩ := (hin _).1 f2'
      have := (f1' a ha).1
      have := (h m g1 g2).1
      omega
    have ez : lastZ (nosL l node) = z := by
      obtain ⟨m, g1, g2, g3⟩ := (hin _).1 f3'
      have := (f1' z hz).2
      have := (h m g1 g2).2
      omega
    have ba := n3 a ha
    have bz := n3 z hz
    have haz : a ≤ z := by have := (f1' a ha).2; omega
    obtain ⟨S, hS⟩ : ∃ S, nosL l node = a :: S := by
      cases hS : nosL l node with
      | nil => rw [hS] at hpos; cases hpos
      | cons x S => rw [hS] at ea; exact ⟨S, by rw [show x = a from ea]⟩
    have hgl := (gaps_length S a (by rw [← hS]; exact n1)).2
    have hfr := filter_range (fun x => !(hasB l node x)) S a (by rw [← hS]; exact n1) (fun x _ => by rw [← hS, n2]; simp)
    rw [← hS, ez] at hgl hfr
    have hLen : (nosL l node).length = S.length + 1 := by rw [hS]; rfl
    rw [show Nat.beq (nosL l node).length 0 = false by rw [hLen]; rfl, ea, ez, cond_false, iltF (show ¬ z < 0 by omega), condF]
    rw [wrapI (x := z - a) (by omega) (by omega), wrapI (x := z - a + 1) (by omega) (by omega), wrapI (x := Int.ofNat l.length + 1000) (by simp; omega) (by simp; omega)]
    have hNl : Int.ofNat l.length = ((l.length : Nat) : Int) := rfl
    have hNn : Int.ofNat (nosL l node).length = (((nosL l node).length : Nat) : Int) := rfl
    rw [hNl, hNn]
    by_cases hbig : ((l.length : Nat) : Int) + 1000 < z - a + 1
    · rw [iltT hbig, iltT (show (1000 : Int) < z - a + 1 - (((nosL l node).length : Nat) : Int) by omega)]
      rfl
    · rw [iltF hbig, condF, loop l hlen node z bz.2 100000 (z - a + 1).toNat a [] rfl (by omega) ba.1 (by omega) (by simp; omega), List.nil_append, hfr]
      show sh5 (gaps (nosL l node)) = _
      unfold sh5
      have hNg : Int.ofNat (gaps (nosL l node)).length = (((gaps (nosL l node)).length : Nat) : Int) := rfl
      rw [hNg]
      by_cases hf : (1000 : Int) < (((gaps (nosL l node)).length : Nat) : Int)
      · rw [iltT hf, iltT (show (1000 : Int) < z - a + 1 - (((nosL l node).length : Nat) : Int) by omega)]
        rfl
      · rw [iltF hf, iltF (show ¬ (1000 : Int) < z - a + 1 - (((nosL l node).length : Nat) : Int) by omega)]
        rfl
theorem ok : CtxOk Try.prog X := ctxOk tab (by
  intro p hp
  simp only [List.mem_cons, List.not_mem_nil, or_false] at hp
  rcases hp with rfl | rfl
  · exact rhas.spOk
  · exact rgiven.spOk) (by
  intro p hp
  cases hp)
theorem okM : MOk Try.prog X := fun g sp h => by cases h
theorem spec (l : List Msg) (node : List UInt8) : CallSpec Try.prog E 32 [(.lst .msg l), (.str node)] (.tup [(.ful 0), (.int .i64 (misE l node))]) [(0, .rows .int (misL l node))] :=
  runFn_sound ok okM Try.call32 Try.func32 (by kernel_rfl) (by kernel_rfl) (by kernel_rfl) (by show 2 ≤ 84; decide) (by decide) (by rfl) ((run l node).trans (f0_eq l node))
noncomputable def sp : Sp U El := fun args k => match args with
  | [.lst .msg l, .str node] => k (.tup [(.ful 0), (.int .i64 (misE l node))]) [(0, .rows .int (misL l node))]
  | _ => none
theorem spOk : SpOk Try.prog E 32 sp where
  det := fun vs => by
    unfold sp
    split
    · exact ⟨some (_, _), fun _ => rfl⟩
    · exact ⟨none, fun _ => rfl⟩
  ok := fun vs k r h => by
    unfold sp at h
    split at h
    · exact ⟨_, _, spec _ _, h⟩
    · cases h
end rmiss
theorem misL_short (l : List Msg) (node : List UInt8) : (misL l node).length ≤ 90000 := by
  unfold misL
  cases he : misE l node == 0
  · simp
  · unfold misE at he
    cases hvn : validB l && nameB node
    · rw [hvn] at he; cases he
    · rw [hvn] at he
      rw [Bool.and_eq_true] at hvn
      obtain ⟨n1, n2, n3, n4⟩ := nos_facts (node := node) hvn.1
      have hlen := (valid_keys hvn.1).2
      simp only [Bool.not_true, cond_false] at he
      cases hS : nosL l node with
      | nil => simp [gaps]
      | cons a S =>
        have hgl := (gaps_length S a (by rw [← hS]; exact n1)).2
        rw [hS] at he
        cases hf : ilt 1000 (lastZ (a :: S) - List.getD (a :: S) 0 0 + 1 - Int.ofNat (a :: S).length)
        · have := iltN hf
          have hN : Int.ofNat (a :: S).length = ((S.length + 1 : Nat) : Int) := rfl
          have h0 : List.getD (a :: S) 0 0 = a := rfl
          rw [hN, h0] at this
          simp only [cond_true]
          omega
        · rw [hf] at he; simp [Nat.beq] at he
theorem serL_short (l : List Msg) (node : List UInt8) (from_ step n : Int) : (serL l node from_ step n).length ≤ 90000 := by
  unfold serL
  cases he : serE l node from_ step n == 0
  · simp
  · unfold serE at he
    by_cases hn : n ≤ 10000
    · simp [levels]; omega
    · rw [ileF hn] at he
      simp only [Bool.and_false, Bool.false_and, cond_false] at he
      cases hv : !(validB l && nameB node) <;> rw [hv] at he <;> cases he
namespace lawSeries
noncomputable def bd : Code := (Try.f8.body).getD .skip
noncomputable def X : Ctx U El := ⟨E, tds, zeros, eqs, specOf [(9, awake.sp), (10, many.sp), (28, seriesC.sp), (29, missC.sp), (30, equalI.sp), (31, rseries.sp), (32, rmiss.sp)], 100000, 89, dspecOf [], fun _ => none⟩
noncomputable def nmR : Norm U := ⟨[], [10], [], [], [], [], []⟩
noncomputable def RR : Kont U El := fun st => normK nmR st (retFin [10] [])
noncomputable def nm1 : Norm U := ⟨[], [0, 1, 2, 3, 4], [], [], [], [], []⟩
noncomputable def fr0 (l : List Msg) (node : List UInt8) (from_ : Int) (step : Int) (n : Int) : St U El := ⟨[(0, (.lst .msg l)), (1, (.str node)), (2, (.int .i64 from_)), (3, (.int .i64 step)), (4, (.int .i64 n))], []⟩
noncomputable def fr1 (l0 : List Msg) (node1 : List UInt8) (from2 : Int) (step3 : Int) (n4 : Int) : St U El := ⟨[(0, (.lst .msg l0)), (1, (.str node1)), (2, (.int .i64 from2)), (3, (.int .i64 step3)), (4, (.int .i64 n4))], []⟩
noncomputable def sh0 (l : List Msg) (node : List UInt8) (from_ : Int) (step : Int) (n : Int) (k1 : (List Msg) → (List UInt8) → Int → Int → Int → R) : R :=
  condB (!(true)) (some ((.bool false), [])) (condB (ilt (40 : Int) (Int.ofNat (List.length l))) (some ((.bool true), [])) (chk (ile (40 : Int) 80000) (condB (manyB l (40 : Int)) (some ((.bool true), [])) (condB (ilt (100 : Int) (Int.ofNat (List.length node))) (some ((.bool true), [])) (condB (ilt (60 : Int) n) (condB (ile n (10000 : Int)) (some ((.bool true), [])) (k1 l node from_ step n)) (k1 l node from_ step n))))))
noncomputable def sh1 (l0 : List Msg) (node1 : List UInt8) (from2 : Int) (step3 : Int) (n4 : Int) : R :=
  chk (nle (List.length (serL l0 node1 from2 step3 n4)) 90000) (condB (eqI (serL l0 node1 from2 step3 n4) (serL l0 node1 from2 step3 n4)) (condB ((serE l0 node1 from2 step3 n4) == (serE l0 node1 from2 step3 n4)) (chk (nle (List.length (misL l0 node1)) 90000) (condB (eqI (misL l0 node1) (misL l0 node1)) (some ((.bool ((misE l0 node1) == (misE l0 node1))), [])) (some ((.bool false), [])))) (some ((.bool false), []))) (some ((.bool false), [])))
noncomputable def ct1 : Kont U El := fun st => exec X (cdp [1, 1, 1] bd) .d st RR (fun _ _ => none) RR
theorem P0 (l : List Msg) (node : List UInt8) (from_ : Int) (step : Int) (n : Int) : exec X (cdp [] bd) (.seq none .d (.seq none .d (.seq (some nm1) .d .d))) (fr0 l node from_ step n) RR (fun _ _ => none) RR = sh0 l node from_ step n (fun y0 y1 y2 y3 y4 => (hid ct1) (fr1 y0 y1 y2 y3 y4)) := by kernel_rfl
theorem P1 (l0 : List Msg) (node1 : List UInt8) (from2 : Int) (step3 : Int) (n4 : Int) : exec X (cdp [1, 1, 1] bd) .d (fr1 l0 node1 from2 step3 n4) RR (fun _ _ => none) RR = sh1 l0 node1 from2 step3 n4 := by kernel_rfl
noncomputable def f1 (l0 : List Msg) (node1 : List UInt8) (from2 : Int) (step3 : Int) (n4 : Int) : R := sh1 l0 node1 from2 step3 n4
noncomputable def f0 (l : List Msg) (node : List UInt8) (from_ : Int) (step : Int) (n : Int) : R := sh0 l node from_ step n f1
theorem T1 (l0 : List Msg) (node1 : List UInt8) (from2 : Int) (step3 : Int) (n4 : Int) : (hid ct1) (fr1 l0 node1 from2 step3 n4) = f1 l0 node1 from2 step3 n4 := by
  refine (congrFun (hid_eq _) _).trans <| (P1 l0 node1 from2 step3 n4).trans ?_
  show _ = sh1 l0 node1 from2 step3 n4
  rfl
theorem T0 (l : List Msg) (node : List UInt8) (from_ : Int) (step : Int) (n : Int) : exec X bd (.seq none .d (.seq none .d (.seq (some nm1) .d .d))) (fr0 l node from_ step n) RR (fun _ _ => none) RR = f0 l node from_ step n := by
  refine (P0 l node from_ step n).trans ?_
  show _ = sh0 l node from_ step n f1
  simp only [T1]
theorem run (l : List Msg) (node : List UInt8) (from_ : Int) (step : Int) (n : Int) : runFn X bd (.seq none .d (.seq none .d (.seq (some nm1) .d .d))) nmR [10] [] [(.lst .msg l), (.str node), (.int .i64 from_), (.int .i64 step), (.int .i64 n)] = f0 l node from_ step n := T0 l node from_ step n
theorem fin (l : List Msg) (node : List UInt8) (from_ step n : Int) : f1 l node from_ step n = outB true := by
  show sh1 l node from_ step n = _
  unfold sh1
  rw [nleT (serL_short l node from_ step n), nleT (misL_short l node), eqI_self, eqI_self, beq_self_eq_true, beq_self_eq_true]
  rfl
theorem f0_eq (l : List Msg) (node : List UInt8) (from_ step n : Int) : f0 l node from_ step n = outB true := by
  show sh0 l node from_ step n f1 = _
  unfold sh0
  rw [fin]
  cases ilt 40 (Int.ofNat l.length)
  · cases manyB l 40
    · cases ilt 100 (Int.ofNat node.length)
      · cases ilt 60 n
        · rfl
        · cases ile n 10000 <;> rfl
      · rfl
    · rfl
  · rfl
theorem ok : CtxOk Try.prog X := ctxOk tab (by
  intro p hp
  simp only [List.mem_cons, List.not_mem_nil, or_false] at hp
  rcases hp with rfl | rfl | rfl | rfl | rfl | rfl | rfl
  · exact awake.spOk
  · exact many.spOk
  · exact seriesC.spOk
  · exact missC.spOk
  · exact equalI.spOk
  · exact rseries.spOk
  · exact rmiss.spOk) (by
  intro p hp
  cases hp)
theorem okM : MOk Try.prog X := fun g sp h => by cases h
theorem spec (l : List Msg) (node : List UInt8) (from_ : Int) (step : Int) (n : Int) : CallSpec Try.prog E 8 [(.lst .msg l), (.str node), (.int .i64 from_), (.int .i64 step), (.int .i64 n)] (.bool (true)) [] :=
  runFn_sound ok okM Try.call8 Try.func8 (by kernel_rfl) (by kernel_rfl) (by kernel_rfl) (by show 5 ≤ 89; decide) (by decide) (by rfl) ((run l node from_ step n).trans (f0_eq l node from_ step n))
noncomputable def sp : Sp U El := fun args k => match args with
  | [.lst .msg l, .str node, .int .i64 from_, .int .i64 step, .int .i64 n] => k (.bool (true)) []
  | _ => none
theorem spOk : SpOk Try.prog E 8 sp where
  det := fun vs => by
    unfold sp
    split
    · exact ⟨some (_, _), fun _ => rfl⟩
    · exact ⟨none, fun _ => rfl⟩
  ok := fun vs k r h => by
    unfold sp at h
    split at h
    · exact ⟨_, _, spec _ _ _ _ _, h⟩
    · cases h
end lawSeries
end Go.Proofs.Ytkeplmpcijigaaa
