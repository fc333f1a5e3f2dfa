/- Missing: the code's. -/
import Derived.Test.YtkeplmpcijigaaaVX
import Derived.Test.YtkeplmpcijigaaaSI
namespace Go.Proofs.Ytkeplmpcijigaaa
set_option linter.unusedSectionVars false
set_option linter.unusedSimpArgs false
set_option linter.unusedVariables false
set_option maxRecDepth 100000

noncomputable def eqLI : List Int → List Int → Bool
  | [], [] => true
  | x :: a, y :: b => !(x != y) && eqLI a b
  | _, _ => false
noncomputable def eqI (a b : List Int) : Bool := bif (Int.ofNat a.length) != (Int.ofNat b.length) then false else eqLI a b
theorem eqLI_self : ∀ a, eqLI a a = true := by
  intro a
  induction a with
  | nil => rfl
  | cons x a ih => simp [eqLI, ih]
theorem eqI_self (a : List Int) : eqI a a = true := by
  unfold eqI
  rw [bne_self_eq_false]
  exact eqLI_self a
namespace equalI
noncomputable def bd : Code := (Try.f30.body).getD .skip
noncomputable def X : Ctx U El := ⟨E, tds, zeros, eqs, specOf [], 100000, 26, dspecOf [], fun _ => none⟩
noncomputable def nmR : Norm U := ⟨[], [4], [], [], [], [], []⟩
noncomputable def RR : Kont U El := fun st => normK nmR st (retFin [4] [])
noncomputable def nm1 : Norm U := ⟨[], [], [], [], [], [], []⟩
noncomputable def nm2 : Norm U := ⟨[], [0, 1, 12, 13], [], [], [], [], []⟩
noncomputable def fr0 (a : List Int) (b : List Int) : St U El := ⟨[(0, (.lst .int a)), (1, (.lst .int b))], []⟩
noncomputable def fr1 : St U El := ⟨[], []⟩
noncomputable def fr2 (s10 : List Int) (s21 : List Int) (x12 : Int) (x13 : Int) : St U El := ⟨[(0, (.lst .int s10)), (1, (.lst .int s21)), (12, (.int .i64 x12)), (13, (.int .i64 x13))], []⟩
noncomputable def sh0 (a : List Int) (b : List Int) (k2 : (List Int) → (List Int) → Int → Int → R) : R :=
  condB ((Int.ofNat (List.length a)) != (Int.ofNat (List.length b))) (some ((.bool false), [])) (k2 a b (Int.ofNat (List.length a)) (0 : Int))
noncomputable def sh1 : R :=
  some ((.bool true), [])
noncomputable def sh2 (s10 : List Int) (s21 : List Int) (x12 : Int) (x13 : Int) (k1 : R) (k2 : (List Int) → (List Int) → Int → Int → R) : R :=
  condB (ilt x13 x12) (chk (inb x13 (List.length s10)) (chk (inb x13 (List.length s21)) (condB ((List.getD s10 (Int.toNat x13) d_int) != (List.getD s21 (Int.toNat x13) d_int)) (some ((.bool false), [])) (k2 s10 s21 x12 (IntKind.wrap .i64 (x13 + (1 : Int))))))) (k1)
noncomputable def it2 (Kb1 : Kont U El) (n : Nat) : Kont U El := iter nm2 (fun st' K' => exec X (cdp [1, 1, 0, 1, 0, 0] bd) .d st' K' (Eblk 0 (cutK nm1 Kb1) (fun _ _ => none)) RR) n
noncomputable def ct1 : Kont U El := fun st => exec X (cdp [1, 1, 1] bd) .d st RR (fun _ _ => none) RR
theorem P0 (a : List Int) (b : List Int) : exec X (cdp [] bd) (.seq none .d (.seq none .d (.seq (some nm1) (.seq none .d (.block (.loop nm2 .d))) .d))) (fr0 a b) RR (fun _ _ => none) RR = sh0 a b (fun y0 y1 y2 y3 => (hid (it2 (hid ct1) 100000)) (fr2 y0 y1 y2 y3)) := by kernel_rfl
theorem P1 : exec X (cdp [1, 1, 1] bd) .d (fr1) RR (fun _ _ => none) RR = sh1 := by kernel_rfl
theorem P2 (s10 : List Int) (s21 : List Int) (x12 : Int) (x13 : Int) (Kb1 : Kont U El) (Kb2 : Kont U El) : exec X (cdp [1, 1, 0, 1, 0, 0] bd) .d (fr2 s10 s21 x12 x13) (cutK nm2 Kb2) (Eblk 0 (cutK nm1 Kb1) (fun _ _ => none)) RR = sh2 s10 s21 x12 x13 (Kb1 (fr1)) (fun y0 y1 y2 y3 => Kb2 (fr2 y0 y1 y2 y3)) := by kernel_rfl
noncomputable def f1 : R := sh1
noncomputable def f2 : Nat → (List Int) → (List Int) → Int → Int → R
  | 0 => fun _ _ _ _ => none
  | n + 1 => fun s10 s21 x12 x13 => sh2 s10 s21 x12 x13 f1 (f2 n)
noncomputable def f0 (a : List Int) (b : List Int) : R := sh0 a b (f2 100000)
theorem T1 : (hid ct1) (fr1) = f1 := by
  refine (congrFun (hid_eq _) _).trans <| (P1).trans ?_
  show _ = sh1
  rfl
theorem T2 : ∀ (n : Nat), ∀ s10 s21 x12 x13, it2 (hid ct1) n (fr2 s10 s21 x12 x13) = f2 n s10 s21 x12 x13 := by
  intro n
  induction n with
  | zero => intros; rfl
  | succ n ih =>
    intro s10 s21 x12 x13
    refine (P2 s10 s21 x12 x13 (hid ct1) (it2 (hid ct1) n)).trans ?_
    show _ = sh2 s10 s21 x12 x13 f1 (f2 n)
    simp only [T1, ih]
theorem H2 (s10 : List Int) (s21 : List Int) (x12 : Int) (x13 : Int) : hid (it2 (hid ct1) 100000) (fr2 s10 s21 x12 x13) = f2 100000 s10 s21 x12 x13 := (congrFun (hid_eq _) _).trans (T2 100000 s10 s21 x12 x13)
theorem T0 (a : List Int) (b : List Int) : exec X bd (.seq none .d (.seq none .d (.seq (some nm1) (.seq none .d (.block (.loop nm2 .d))) .d))) (fr0 a b) RR (fun _ _ => none) RR = f0 a b := by
  refine (P0 a b).trans ?_
  show _ = sh0 a b (f2 100000)
  simp only [H2]
theorem run (a : List Int) (b : List Int) : runFn X bd (.seq none .d (.seq none .d (.seq (some nm1) (.seq none .d (.block (.loop nm2 .d))) .d))) nmR [4] [] [(.lst .int a), (.lst .int b)] = f0 a b := T0 a b
theorem loop (a b : List Int) (hl : a.length ≤ 90000) (he : a.length = b.length) : ∀ (n i : Nat), a.length < n + i → i ≤ a.length → f2 n a b (Int.ofNat a.length) (i : Int) = outB (eqLI (a.drop i) (b.drop i)) := by
  intro n
  induction n with
  | zero => intro i h1 h2; omega
  | succ n ih =>
    intro i h1 h2
    show sh2 a b (Int.ofNat a.length) i f1 (f2 n) = _
    unfold sh2
    by_cases hi : i < a.length
    · have hi' : i < b.length := by omega
      rw [iltT (by simp; omega), inbT hi, inbT hi', toNat_nat, getD_lt hi, getD_lt hi', drop_lt hi, drop_lt hi', wrapS i (by omega)]
      simp only [eqLI]
      cases a[i] != b[i]
      · exact ih (i + 1) (by omega) hi
      · rfl
    · have : i = a.length := by omega
      subst this
      rw [iltF (by simp), List.drop_length, he, List.drop_length]
      rfl
theorem f0_eq (a b : List Int) (h : nle (List.length a) 90000 = true) : f0 a b = outB (eqI a b) := by
  have hl : a.length ≤ 90000 := nleI h
  unfold f0 sh0 eqI
  cases hb : (Int.ofNat a.length) != (Int.ofNat b.length)
  · have he : a.length = b.length := by
      have : (Int.ofNat a.length) = (Int.ofNat b.length) := by simpa using hb
      exact Int.ofNat.inj this
    exact loop a b hl he 100000 0 (by omega) (by omega)
  · rfl
theorem ok : CtxOk Try.prog X := ctxOk tab (by
  intro p hp
  cases hp) (by
  intro p hp
  cases hp)
theorem okM : MOk Try.prog X := fun g sp h => by cases h
theorem spec (a : List Int) (b : List Int) (h : (nle (List.length a) 90000) = true) : CallSpec Try.prog E 30 [(.lst .int a), (.lst .int b)] (.bool (eqI a b)) [] :=
  runFn_sound ok okM Try.call30 Try.func30 (by kernel_rfl) (by kernel_rfl) (by kernel_rfl) (by show 2 ≤ 26; decide) (by decide) (by rfl) ((run a b).trans (f0_eq a b h))
noncomputable def sp : Sp U El := fun args k => match args with
  | [.lst .int a, .lst .int b] => chk (nle (List.length a) 90000) (k (.bool (eqI a b)) [])
  | _ => none
theorem spOk : SpOk Try.prog E 30 sp where
  det := fun vs => by
    unfold sp
    split
    · rename_i a b
      cases hb : (nle (List.length a) 90000)
      · exact ⟨none, fun _ => rfl⟩
      · exact ⟨some (_, _), fun _ => rfl⟩
    · exact ⟨none, fun _ => rfl⟩
  ok := fun vs k r h => by
    unfold sp at h
    split at h
    · obtain ⟨h1, h2⟩ := chk_some h
      exact ⟨_, _, spec _ _ h1, h2⟩
    · cases h
end equalI

noncomputable def nosL (l : List Msg) (node : List UInt8) : List Int := sortI ((ofL l node).map Msg.no)
noncomputable def rangeZ (a : Int) : Nat → List Int
  | 0 => []
  | k + 1 => a :: rangeZ (a + 1) k
noncomputable def gaps : List Int → List Int
  | a :: b :: r => rangeZ (a + 1) (b - a - 1).toNat ++ gaps (b :: r)
  | _ => []
noncomputable def lastZ (S : List Int) : Int := List.getD S (S.length - 1) 0
noncomputable def misE (l : List Msg) (node : List UInt8) : Int := bif !(validB l && nameB node) then 1 else bif Nat.beq (nosL l node).length 0 then 12 else bif ilt 1000 (lastZ (nosL l node) - List.getD (nosL l node) 0 0 + 1 - Int.ofNat (nosL l node).length) then 4 else 0
noncomputable def misL (l : List Msg) (node : List UInt8) : List Int := bif misE l node == 0 then gaps (nosL l node) else []

theorem rangeZ_length : ∀ (k : Nat) (a : Int), (rangeZ a k).length = k := by
  intro k
  induction k with
  | zero => intro a; rfl
  | succ k ih => intro a; simp [rangeZ, ih]
theorem lastZ_cons (a b : Int) (r : List Int) : lastZ (a :: b :: r) = lastZ (b :: r) := by
  unfold lastZ
  simp [List.getD]
theorem gaps_length : ∀ (S : List Int) (a : Int), (a :: S).Pairwise (fun x y => x < y) → a ≤ lastZ (a :: S) ∧ ((gaps (a :: S)).length : Int) + (S.length + 1 : Nat) = lastZ (a :: S) - a + 1 := by
  intro S
  induction S with
  | nil => intro a _; unfold lastZ gaps; simp
  | cons b r ih =>
    intro a h
    obtain ⟨h1, h2⟩ := List.pairwise_cons.1 h
    obtain ⟨i1, i2⟩ := ih b h2
    have hab := h1 b (by simp)
    rw [lastZ_cons]
    refine ⟨by omega, ?_⟩
    simp only [gaps, List.length_append, rangeZ_length]
    have : ((b - a - 1).toNat : Int) = b - a - 1 := Int.toNat_of_nonneg (by omega)
    simp only [List.length_cons] at i2 ⊢
    omega
theorem validL_right : ∀ (l pre : List Msg), validL pre l = true → ∀ m, m ∈ l → rightB m = true := by
  intro l
  induction l with
  | nil => intro pre _ m h; cases h
  | cons x l ih =>
    intro pre h m hm
    simp only [validL, Bool.and_eq_true] at h
    rcases List.mem_cons.1 hm with rfl | hm
    · exact h.1
    · exact ih _ h.2.2 m hm
/-- the numbers of a node: ascending, each once, in their range, just those that the list has -/
theorem nos_facts {l : List Msg} {node : List UInt8} (hv : validB l = true) : (nosL l node).Pairwise (fun x y => x < y) ∧ (∀ n, n ∈ nosL l node ↔ hasB l node n = true) ∧ (∀ n, n ∈ nosL l node → 0 ≤ n ∧ n ≤ 1073741824) ∧ (nosL l node).length ≤ l.length := by
  have hlen := (valid_keys hv).2
  unfold validB at hv
  rw [Bool.and_eq_true] at hv
  have hd := (validL_dis l [] hv.2).2
  have hr := validL_right l [] hv.2
  have hp : (nosL l node).Perm ((ofL l node).map Msg.no) := List.mergeSort_perm _ _
  have hmem : ∀ m, m ∈ ofL l node ↔ m ∈ l ∧ m.nd = node := fun m => by
    unfold ofL
    rw [List.mem_filter, (sortM_perm l).mem_iff]
    simp
  have hsub : (ofL l node).length ≤ l.length := Nat.le_trans (List.length_filter_le _ _) (Nat.le_of_eq (sortM_perm l).length_eq)
  have hnd : ((ofL l node).map Msg.no).Pairwise (fun x y => x ≠ y) := by
    have h1 : (sortM l).Pairwise (fun a b => ¬ (a.nd = b.nd ∧ a.no = b.no)) := ((sortM_perm l).symm.pairwise_iff (fun {x y} hxy e => hxy ⟨e.1.symm, e.2.symm⟩)).1 hd
    have h2 : (ofL l node).Pairwise (fun a b => ¬ (a.nd = b.nd ∧ a.no = b.no)) := h1.filter _
    refine List.pairwise_map.2 (h2.imp_of_mem fun {a b} ha hb hab e => hab ⟨?_, e⟩)
    rw [((hmem a).1 ha).2, ((hmem b).1 hb).2]
  have hnd' : (nosL l node).Pairwise (fun x y => x ≠ y) := (hp.symm.pairwise_iff (fun {x y} hxy e => hxy e.symm)).1 hnd
  have hso : (nosL l node).Pairwise (fun x y => x ≤ y) := by
    have := List.pairwise_mergeSort (le := fun x y : Int => decide (x ≤ y)) (fun a b c h1 h2 => by simp only [decide_eq_true_eq] at *; omega) (fun a b => by simp only [Bool.or_eq_true, decide_eq_true_eq]; omega) ((ofL l node).map Msg.no)
    exact this.imp fun h => by simpa using h
  have hin : ∀ n, n ∈ nosL l node ↔ ∃ m, m ∈ l ∧ m.nd = node ∧ m.no = n := fun n => by
    rw [hp.mem_iff, List.mem_map]
    constructor
    · rintro ⟨m, hm, rfl⟩; exact ⟨m, ((hmem m).1 hm).1, ((hmem m).1 hm).2, rfl⟩
    · rintro ⟨m, h1, h2, rfl⟩; exact ⟨m, (hmem m).2 ⟨h1, h2⟩, rfl⟩
  refine ⟨(hso.and hnd').imp fun h => by omega, fun n => ?_, fun n hn => ?_, ?_⟩
  · rw [hin]
    unfold hasB
    rw [List.any_eq_true]
    constructor
    · rintro ⟨m, h1, h2, h3⟩; exact ⟨m, h1, by simp [h2, h3]⟩
    · rintro ⟨m, h1, h2⟩
      simp only [Bool.and_eq_true, beq_iff_eq] at h2
      exact ⟨m, h1, h2.1, h2.2⟩
  · obtain ⟨m, h1, _, rfl⟩ := (hin n).1 hn
    have h3 := hr m h1
    simp only [rightB, Bool.and_eq_true] at h3
    exact ⟨ileI h3.2.1.1, ileI h3.2.1.2⟩
  · rw [hp.length_eq, List.length_map]; exact hsub

theorem capI {n : Nat} (h : n ≤ 1000000) (x : Int) : (nle ((n + List.length ([x] : List Int)) * 8) 140737488355328 && nle (n + List.length ([x] : List Int)) 9223372036854775807) = true := Bool.and_eq_true_iff.2 ⟨nleT (by simp; omega), nleT (by simp; omega)⟩
theorem mem_of_getD {S : List Int} {i : Nat} (h : i < S.length) : List.getD S i 0 ∈ S := by rw [getD_lt h]; exact List.getElem_mem h
namespace missC
noncomputable def bd : Code := (Try.f29.body).getD .skip
noncomputable def X : Ctx U El := ⟨E, tds, zeros, eqs, specOf [(47, ofM.sp)], 100000, 84, dspecOf [], mspecOf [(49, sortISp)]⟩
noncomputable def nmR : Norm U := ⟨[(4, .int)], [4, 5], [4], [], [], [], []⟩
noncomputable def RR : Kont U El := fun st => normK nmR st (retFin [4, 5] [4])
noncomputable def nm1 : Norm U := ⟨[(8, .int)], [8], [8], [], [], [], []⟩
noncomputable def nm2 : Norm U := ⟨[(8, .int)], [8, 30, 31, 32], [8], [], [], [], []⟩
noncomputable def nm3 : Norm U := ⟨[(12, .int)], [12], [12], [], [], [], []⟩
noncomputable def nm4 : Norm U := ⟨[(8, .int), (12, .int)], [8, 12, 61, 62, 63], [8, 12], [], [], [], []⟩
noncomputable def nm5 : Norm U := ⟨[(8, .int), (12, .int)], [8, 12, 61, 62, 63], [8, 12], [], [], [], []⟩
noncomputable def nm6 : Norm U := ⟨[(8, .int), (12, .int)], [8, 12, 14, 15, 61, 62, 63], [8, 12], [], [], [], []⟩
noncomputable def fr0 (l : List Msg) (node : List UInt8) : St U El := ⟨[(0, (.lst .msg l)), (1, (.str node))], []⟩
noncomputable def fr1 (numbers8 : List Int) : St U El := ⟨[(8, (.ful 8))], [(8, (.rows .int numbers8))]⟩
noncomputable def fr2 (numbers8 : List Int) (x30 : List Msg) (x31 : Int) (x32 : Int) : St U El := ⟨[(8, (.ful 8)), (30, (.lst .msg x30)), (31, (.int .i64 x31)), (32, (.int .i64 x32))], [(8, (.rows .int numbers8))]⟩
noncomputable def fr3 (out12 : List Int) : St U El := ⟨[(12, (.ful 12))], [(12, (.rows .int out12))]⟩
noncomputable def fr4 (numbers8 : List Int) (out12 : List Int) (x61_lo : Nat) (x61_n : Nat) (x62 : Int) (x63 : Int) : St U El := ⟨[(8, (.ful 8)), (12, (.ful 12)), (61, (.own 8 x61_lo x61_n)), (62, (.int .i64 x62)), (63, (.int .i64 x63))], [(8, (.rows .int numbers8)), (12, (.rows .int out12))]⟩
noncomputable def fr5 (numbers8 : List Int) (out12 : List Int) (x61_lo : Nat) (x61_n : Nat) (x62 : Int) (x63 : Int) : St U El := ⟨[(8, (.ful 8)), (12, (.ful 12)), (61, (.own 8 x61_lo x61_n)), (62, (.int .i64 x62)), (63, (.int .i64 x63))], [(8, (.rows .int numbers8)), (12, (.rows .int out12))]⟩
noncomputable def fr6 (numbers8 : List Int) (out12 : List Int) (n14 : Int) (kv15 : Int) (x61_lo : Nat) (x61_n : Nat) (x62 : Int) (x63 : Int) : St U El := ⟨[(8, (.ful 8)), (12, (.ful 12)), (14, (.int .i64 n14)), (15, (.int .i64 kv15)), (61, (.own 8 x61_lo x61_n)), (62, (.int .i64 x62)), (63, (.int .i64 x63))], [(8, (.rows .int numbers8)), (12, (.rows .int out12))]⟩
noncomputable def sh0 (l : List Msg) (node : List UInt8) (k2 : (List Int) → (List Msg) → Int → Int → R) : R :=
  condB (((bif validB l && nameB node then 0 else 1)) != (0 : Int)) (some ((.tup [(.ful 0), (.int .i64 ((bif validB l && nameB node then 0 else 1)))]), [(0, .rows .int ([] : List Int))])) (condB ((Int.ofNat (List.length ((bif validB l && nameB node then List.filter (fun m => Msg.nd m == node) (sortM l) else [])))) == (0 : Int)) (some ((.tup [(.ful 0), (.int .i64 (12 : Int))]), [(0, .rows .int ([] : List Int))])) (k2 ([] : List Int) ((bif validB l && nameB node then List.filter (fun m => Msg.nd m == node) (sortM l) else [])) (Int.ofNat (List.length ((bif validB l && nameB node then List.filter (fun m => Msg.nd m == node) (sortM l) else [])))) (0 : Int)))
noncomputable def sh1 (numbers8 : List Int) (k4 : (List Int) → (List Int) → Nat → Nat → Int → Int → R) : R :=
  chk (nlt 0 (List.length numbers8) && nle (List.length numbers8) 100000) (chk (inb (IntKind.wrap .i64 ((Int.ofNat (List.length (sortI numbers8))) - (1 : Int))) (List.length (sortI numbers8))) (chk (nlt (Int.toNat (IntKind.wrap .i64 ((Int.ofNat (List.length (sortI numbers8))) - (1 : Int)))) (List.length (sortI numbers8))) (chk (inb (0 : Int) (List.length (sortI numbers8))) (chk (nlt 0 (List.length (sortI numbers8))) (condB (ilt (1000 : Int) (IntKind.wrap .i64 ((IntKind.wrap .i64 ((IntKind.wrap .i64 ((List.getD (sortI numbers8) (Int.toNat (IntKind.wrap .i64 ((Int.ofNat (List.length (sortI numbers8))) - (1 : Int)))) d_int) - (List.getD (sortI numbers8) 0 d_int))) + (1 : Int))) - (Int.ofNat (List.length (sortI numbers8)))))) (some ((.tup [(.ful 0), (.int .i64 (4 : Int))]), [(0, .rows .int ([] : List Int))])) (chk (ile 0 (1 : Int) && ile (1 : Int) (Int.ofNat (List.length (sortI numbers8))) && ile (Int.ofNat (List.length (sortI numbers8))) (Int.ofNat (List.length (sortI numbers8)))) (k4 (sortI numbers8) ([] : List Int) 1 (Int.toNat (Int.ofNat (List.length (sortI numbers8))) - 1) (Int.ofNat (Int.toNat (Int.ofNat (List.length (sortI numbers8))) - 1)) (0 : Int))))))))
noncomputable def sh2 (numbers8 : List Int) (x30 : List Msg) (x31 : Int) (x32 : Int) (k1 : (List Int) → R) (k2 : (List Int) → (List Msg) → Int → Int → R) : R :=
  condB (ilt x32 x31) (chk (inb x32 (List.length x30)) (chk (nle ((List.length numbers8 + List.length ([(List.getD x30 (Int.toNat x32) d_msg).no] : List Int)) * 8) 140737488355328 && nle (List.length numbers8 + List.length ([(List.getD x30 (Int.toNat x32) d_msg).no] : List Int)) 9223372036854775807) (k2 (numbers8 ++ ([(List.getD x30 (Int.toNat x32) d_msg).no] : List Int)) x30 x31 (IntKind.wrap .i64 (x32 + (1 : Int)))))) (k1 numbers8)
noncomputable def sh3 (out12 : List Int) : R :=
  some ((.tup [(.ful 0), (.int .i64 (0 : Int))]), [(0, .rows .int out12)])
noncomputable def sh4 (numbers8 : List Int) (out12 : List Int) (x61_lo : Nat) (x61_n : Nat) (x62 : Int) (x63 : Int) (k3 : (List Int) → R) (k6 : (List Int) → (List Int) → Int → Int → Nat → Nat → Int → Int → R) : R :=
  condB (ilt x63 x62) (chk (inb x63 x61_n) (chk (nlt (x61_lo + (Int.toNat x63)) (List.length numbers8)) (chk (inb x63 (List.length numbers8)) (chk (nlt (Int.toNat x63) (List.length numbers8)) (k6 numbers8 out12 (List.getD numbers8 (x61_lo + (Int.toNat x63)) d_int) (IntKind.wrap .i64 ((List.getD numbers8 (Int.toNat x63) d_int) + (1 : Int))) x61_lo x61_n x62 x63))))) (k3 out12)
noncomputable def sh5 (numbers8 : List Int) (out12 : List Int) (x61_lo : Nat) (x61_n : Nat) (x62 : Int) (x63 : Int) (k4 : (List Int) → (List Int) → Nat → Nat → Int → Int → R) : R :=
  k4 numbers8 out12 x61_lo x61_n x62 (IntKind.wrap .i64 (x63 + (1 : Int)))
noncomputable def sh6 (numbers8 : List Int) (out12 : List Int) (n14 : Int) (kv15 : Int) (x61_lo : Nat) (x61_n : Nat) (x62 : Int) (x63 : Int) (k5 : (List Int) → (List Int) → Nat → Nat → Int → Int → R) (k6 : (List Int) → (List Int) → Int → Int → Nat → Nat → Int → Int → R) : R :=
  condB (ilt kv15 n14) (chk (nle ((List.length out12 + List.length ([kv15] : List Int)) * 8) 140737488355328 && nle (List.length out12 + List.length ([kv15] : List Int)) 9223372036854775807) (k6 numbers8 (out12 ++ ([kv15] : List Int)) n14 (IntKind.wrap .i64 (kv15 + (1 : Int))) x61_lo x61_n x62 x63)) (k5 numbers8 out12 x61_lo x61_n x62 x63)
noncomputable def it2 (Kb1 : Kont U El) (n : Nat) : Kont U El := iter nm2 (fun st' K' => exec X (cdp [1, 1, 1, 1, 0, 1, 0, 0] bd) .d st' K' (Eblk 1 (cutK nm1 Kb1) (fun _ _ => none)) RR) n
noncomputable def it4 (Kb3 : Kont U El) (n : Nat) : Kont U El := iter nm4 (fun st' K' => exec X (cdp [1, 1, 1, 1, 1, 1, 1, 1, 0, 1, 0, 0] bd) (.seq none .d (.seq none .d (.seq (some nm5) (.block (.seq none .d (.seq none .d (.block (.loop nm6 .d))))) .d))) st' K' (Eblk 3 (cutK nm3 Kb3) (fun _ _ => none)) RR) n
noncomputable def it6 (Kb3 : Kont U El) (Kb5 : Kont U El) (n : Nat) : Kont U El := iter nm6 (fun st' K' => exec X (cdp [1, 1, 1, 1, 1, 1, 1, 1, 0, 1, 0, 0, 1, 1, 0, 0, 1, 1, 0, 0] bd) .d st' K' (Eblk 5 (cutK nm5 Kb5) (Eblk 4 (cutK nm5 Kb5) (Eblk 3 (cutK nm3 Kb3) (fun _ _ => none)))) RR) n
noncomputable def ct1 : Kont U El := fun st => exec X (cdp [1, 1, 1, 1, 1] bd) (.seq none .d (.seq none .d (.seq none .d (.seq (some nm3) (.seq none .d (.block (.loop nm4 (.seq none .d (.seq none .d (.seq (some nm5) (.block (.seq none .d (.seq none .d (.block (.loop nm6 .d))))) .d)))))) .d)))) st RR (fun _ _ => none) RR
noncomputable def ct3 : Kont U El := fun st => exec X (cdp [1, 1, 1, 1, 1, 1, 1, 1, 1] bd) .d st RR (fun _ _ => none) RR
noncomputable def ct5 (Kb3 : Kont U El) (Kb4 : Kont U El) : Kont U El := fun st => exec X (cdp [1, 1, 1, 1, 1, 1, 1, 1, 0, 1, 0, 0, 1, 1, 1] bd) .d st (cutK nm4 Kb4) (Eblk 3 (cutK nm3 Kb3) (fun _ _ => none)) RR
theorem P0 (l : List Msg) (node : List UInt8) : exec X (cdp [] bd) (.seq none .d (.seq none .d (.seq none .d (.seq none .d (.seq (some nm1) (.seq none .d (.block (.loop nm2 .d))) (.seq none .d (.seq none .d (.seq none .d (.seq (some nm3) (.seq none .d (.block (.loop nm4 (.seq none .d (.seq none .d (.seq (some nm5) (.block (.seq none .d (.seq none .d (.block (.loop nm6 .d))))) .d)))))) .d))))))))) (fr0 l node) RR (fun _ _ => none) RR = sh0 l node (fun y0 y1 y2 y3 => (hid (it2 (hid ct1) 100000)) (fr2 y0 y1 y2 y3)) := by kernel_rfl
theorem P1 (numbers8 : List Int) : exec X (cdp [1, 1, 1, 1, 1] bd) (.seq none .d (.seq none .d (.seq none .d (.seq (some nm3) (.seq none .d (.block (.loop nm4 (.seq none .d (.seq none .d (.seq (some nm5) (.block (.seq none .d (.seq none .d (.block (.loop nm6 .d))))) .d)))))) .d)))) (fr1 numbers8) RR (fun _ _ => none) RR = sh1 numbers8 (fun y0 y1 y2 y3 y4 y5 => (hid (it4 (hid ct3) 100000)) (fr4 y0 y1 y2 y3 y4 y5)) := by kernel_rfl
theorem P2 (numbers8 : List Int) (x30 : List Msg) (x31 : Int) (x32 : Int) (Kb1 : Kont U El) (Kb2 : Kont U El) : exec X (cdp [1, 1, 1, 1, 0, 1, 0, 0] bd) .d (fr2 numbers8 x30 x31 x32) (cutK nm2 Kb2) (Eblk 1 (cutK nm1 Kb1) (fun _ _ => none)) RR = sh2 numbers8 x30 x31 x32 (fun y0 => Kb1 (fr1 y0)) (fun y0 y1 y2 y3 => Kb2 (fr2 y0 y1 y2 y3)) := by kernel_rfl
theorem P3 (out12 : List Int) : exec X (cdp [1, 1, 1, 1, 1, 1, 1, 1, 1] bd) .d (fr3 out12) RR (fun _ _ => none) RR = sh3 out12 := by kernel_rfl
theorem P4 (numbers8 : List Int) (out12 : List Int) (x61_lo : Nat) (x61_n : Nat) (x62 : Int) (x63 : Int) (Kb3 : Kont U El) (Kb4 : Kont U El) : exec X (cdp [1, 1, 1, 1, 1, 1, 1, 1, 0, 1, 0, 0] bd) (.seq none .d (.seq none .d (.seq (some nm5) (.block (.seq none .d (.seq none .d (.block (.loop nm6 .d))))) .d))) (fr4 numbers8 out12 x61_lo x61_n x62 x63) (cutK nm4 Kb4) (Eblk 3 (cutK nm3 Kb3) (fun _ _ => none)) RR = sh4 numbers8 out12 x61_lo x61_n x62 x63 (fun y0 => Kb3 (fr3 y0)) (fun y0 y1 y2 y3 y4 y5 y6 y7 => (hid (it6 Kb3 (hid (ct5 Kb3 Kb4)) 100000)) (fr6 y0 y1 y2 y3 y4 y5 y6 y7)) := by kernel_rfl
theorem P5 (numbers8 : List Int) (out12 : List Int) (x61_lo : Nat) (x61_n : Nat) (x62 : Int) (x63 : Int) (Kb3 : Kont U El) (Kb4 : Kont U El) : exec X (cdp [1, 1, 1, 1, 1, 1, 1, 1, 0, 1, 0, 0, 1, 1, 1] bd) .d (fr5 numbers8 out12 x61_lo x61_n x62 x63) (cutK nm4 Kb4) (Eblk 3 (cutK nm3 Kb3) (fun _ _ => none)) RR = sh5 numbers8 out12 x61_lo x61_n x62 x63 (fun y0 y1 y2 y3 y4 y5 => Kb4 (fr4 y0 y1 y2 y3 y4 y5)) := by kernel_rfl
theorem P6 (numbers8 : List Int) (out12 : List Int) (n14 : Int) (kv15 : Int) (x61_lo : Nat) (x61_n : Nat) (x62 : Int) (x63 : Int) (Kb3 : Kont U El) (Kb5 : Kont U El) (Kb6 : Kont U El) : exec X (cdp [1, 1, 1, 1, 1, 1, 1, 1, 0, 1, 0, 0, 1, 1, 0, 0, 1, 1, 0, 0] bd) .d (fr6 numbers8 out12 n14 kv15 x61_lo x61_n x62 x63) (cutK nm6 Kb6) (Eblk 5 (cutK nm5 Kb5) (Eblk 4 (cutK nm5 Kb5) (Eblk 3 (cutK nm3 Kb3) (fun _ _ => none)))) RR = sh6 numbers8 out12 n14 kv15 x61_lo x61_n x62 x63 (fun y0 y1 y2 y3 y4 y5 => Kb5 (fr5 y0 y1 y2 y3 y4 y5)) (fun y0 y1 y2 y3 y4 y5 y6 y7 => Kb6 (fr6 y0 y1 y2 y3 y4 y5 y6 y7)) := by kernel_rfl
noncomputable def f3 (out12 : List Int) : R := sh3 out12
noncomputable def f5 (k4 : (List Int) → (List Int) → Nat → Nat → Int → Int → R) (numbers8 : List Int) (out12 : List Int) (x61_lo : Nat) (x61_n : Nat) (x62 : Int) (x63 : Int) : R := sh5 numbers8 out12 x61_lo x61_n x62 x63 k4
noncomputable def f6 (k4 : (List Int) → (List Int) → Nat → Nat → Int → Int → R) : Nat → (List Int) → (List Int) → Int → Int → Nat → Nat → Int → Int → R
  | 0 => fun _ _ _ _ _ _ _ _ => none
  | n + 1 => fun numbers8 out12 n14 kv15 x61_lo x61_n x62 x63 => sh6 numbers8 out12 n14 kv15 x61_lo x61_n x62 x63 (f5 k4) (f6 k4 n)
noncomputable def f4 : Nat → (List Int) → (List Int) → Nat → Nat → Int → Int → R
  | 0 => fun _ _ _ _ _ _ => none
  | n + 1 => fun numbers8 out12 x61_lo x61_n x62 x63 => sh4 numbers8 out12 x61_lo x61_n x62 x63 f3 (f6 (f4 n) 100000)
noncomputable def f1 (numbers8 : List Int) : R := sh1 numbers8 (f4 100000)
noncomputable def f2 : Nat → (List Int) → (List Msg) → Int → Int → R
  | 0 => fun _ _ _ _ => none
  | n + 1 => fun numbers8 x30 x31 x32 => sh2 numbers8 x30 x31 x32 f1 (f2 n)
noncomputable def f0 (l : List Msg) (node : List UInt8) : R := sh0 l node (f2 100000)
theorem T3 (out12 : List Int) : (hid ct3) (fr3 out12) = f3 out12 := by
  refine (congrFun (hid_eq _) _).trans <| (P3 out12).trans ?_
  show _ = sh3 out12
  rfl
theorem T5 (KL4 : Kont U El) (k4 : (List Int) → (List Int) → Nat → Nat → Int → Int → R) (h4 : ∀ numbers8 out12 x61_lo x61_n x62 x63, KL4 (fr4 numbers8 out12 x61_lo x61_n x62 x63) = k4 numbers8 out12 x61_lo x61_n x62 x63) (numbers8 : List Int) (out12 : List Int) (x61_lo : Nat) (x61_n : Nat) (x62 : Int) (x63 : Int) : (hid (ct5 (hid ct3) KL4)) (fr5 numbers8 out12 x61_lo x61_n x62 x63) = f5 k4 numbers8 out12 x61_lo x61_n x62 x63 := by
  refine (congrFun (hid_eq _) _).trans <| (P5 numbers8 out12 x61_lo x61_n x62 x63 (hid ct3) KL4).trans ?_
  show _ = sh5 numbers8 out12 x61_lo x61_n x62 x63 k4
  simp only [h4]
theorem T6 (KL4 : Kont U El) (k4 : (List Int) → (List Int) → Nat → Nat → Int → Int → R) (h4 : ∀ numbers8 out12 x61_lo x61_n x62 x63, KL4 (fr4 numbers8 out12 x61_lo x61_n x62 x63) = k4 numbers8 out12 x61_lo x61_n x62 x63) : ∀ (n : Nat), ∀ numbers8 out12 n14 kv15 x61_lo x61_n x62 x63, it6 (hid ct3) (hid (ct5 (hid ct3) KL4)) n (fr6 numbers8 out12 n14 kv15 x61_lo x61_n x62 x63) = f6 k4 n numbers8 out12 n14 kv15 x61_lo x61_n x62 x63 := by
  intro n
  induction n with
  | zero => intros; rfl
  | succ n ih =>
    intro numbers8 out12 n14 kv15 x61_lo x61_n x62 x63
    refine (P6 numbers8 out12 n14 kv15 x61_lo x61_n x62 x63 (hid ct3) (hid (ct5 (hid ct3) KL4)) (it6 (hid ct3) (hid (ct5 (hid ct3) KL4)) n)).trans ?_
    show _ = sh6 numbers8 out12 n14 kv15 x61_lo x61_n x62 x63 (f5 k4) (f6 k4 n)
    simp only [T5 KL4 k4 h4, ih]
theorem H6 (KL4 : Kont U El) (k4 : (List Int) → (List Int) → Nat → Nat → Int → Int → R) (h4 : ∀ numbers8 out12 x61_lo x61_n x62 x63, KL4 (fr4 numbers8 out12 x61_lo x61_n x62 x63) = k4 numbers8 out12 x61_lo x61_n x62 x63) (numbers8 : List Int) (out12 : List Int) (n14 : Int) (kv15 : Int) (x61_lo : Nat) (x61_n : Nat) (x62 : Int) (x63 : Int) : hid (it6 (hid ct3) (hid (ct5 (hid ct3) KL4)) 100000) (fr6 numbers8 out12 n14 kv15 x61_lo x61_n x62 x63) = f6 k4 100000 numbers8 out12 n14 kv15 x61_lo x61_n x62 x63 := (congrFun (hid_eq _) _).trans (T6 KL4 k4 h4 100000 numbers8 out12 n14 kv15 x61_lo x61_n x62 x63)
theorem T4 : ∀ (n : Nat), ∀ numbers8 out12 x61_lo x61_n x62 x63, it4 (hid ct3) n (fr4 numbers8 out12 x61_lo x61_n x62 x63) = f4 n numbers8 out12 x61_lo x61_n x62 x63 := by
  intro n
  induction n with
  | zero => intros; rfl
  | succ n ih =>
    intro numbers8 out12 x61_lo x61_n x62 x63
    refine (P4 numbers8 out12 x61_lo x61_n x62 x63 (hid ct3) (it4 (hid ct3) n)).trans ?_
    show _ = sh4 numbers8 out12 x61_lo x61_n x62 x63 f3 (f6 (f4 n) 100000)
    simp only [T3, H6 (it4 (hid ct3) n) (f4 n) ih]
theorem H4 (numbers8 : List Int) (out12 : List Int) (x61_lo : Nat) (x61_n : Nat) (x62 : Int) (x63 : Int) : hid (it4 (hid ct3) 100000) (fr4 numbers8 out12 x61_lo x61_n x62 x63) = f4 100000 numbers8 out12 x61_lo x61_n x62 x63 := (congrFun (hid_eq _) _).trans (T4 100000 numbers8 out12 x61_lo x61_n x62 x63)
theorem T1 (numbers8 : List Int) : (hid ct1) (fr1 numbers8) = f1 numbers8 := by
  refine (congrFun (hid_eq _) _).trans <| (P1 numbers8).trans ?_
  show _ = sh1 numbers8 (f4 100000)
  simp only [H4]
theorem T2 : ∀ (n : Nat), ∀ numbers8 x30 x31 x32, it2 (hid ct1) n (fr2 numbers8 x30 x31 x32) = f2 n numbers8 x30 x31 x32 := by
  intro n
  induction n with
  | zero => intros; rfl
  | succ n ih =>
    intro numbers8 x30 x31 x32
    refine (P2 numbers8 x30 x31 x32 (hid ct1) (it2 (hid ct1) n)).trans ?_
    show _ = sh2 numbers8 x30 x31 x32 f1 (f2 n)
    simp only [T1, ih]
theorem H2 (numbers8 : List Int) (x30 : List Msg) (x31 : Int) (x32 : Int) : hid (it2 (hid ct1) 100000) (fr2 numbers8 x30 x31 x32) = f2 100000 numbers8 x30 x31 x32 := (congrFun (hid_eq _) _).trans (T2 100000 numbers8 x30 x31 x32)
theorem T0 (l : List Msg) (node : List UInt8) : exec X bd (.seq none .d (.seq none .d (.seq none .d (.seq none .d (.seq (some nm1) (.seq none .d (.block (.loop nm2 .d))) (.seq none .d (.seq none .d (.seq none .d (.seq (some nm3) (.seq none .d (.block (.loop nm4 (.seq none .d (.seq none .d (.seq (some nm5) (.block (.seq none .d (.seq none .d (.block (.loop nm6 .d))))) .d)))))) .d))))))))) (fr0 l node) RR (fun _ _ => none) RR = f0 l node := by
  refine (P0 l node).trans ?_
  show _ = sh0 l node (f2 100000)
  simp only [H2]
theorem run (l : List Msg) (node : List UInt8) : runFn X bd (.seq none .d (.seq none .d (.seq none .d (.seq none .d (.seq (some nm1) (.seq none .d (.block (.loop nm2 .d))) (.seq none .d (.seq none .d (.seq none .d (.seq (some nm3) (.seq none .d (.block (.loop nm4 (.seq none .d (.seq none .d (.seq (some nm5) (.block (.seq none .d (.seq none .d (.block (.loop nm6 .d))))) .d)))))) .d))))))))) nmR [4, 5] [4] [(.lst .msg l), (.str node)] = f0 l node := T0 l node
theorem collect (ss : List Msg) (hl : ss.length ≤ 10000) : ∀ (n i : Nat) (acc : List Int), ss.length < n + i → i ≤ ss.length → acc.length = i → f2 n acc ss (Int.ofNat ss.length) (i : Int) = f1 (acc ++ (ss.drop i).map Msg.no) := by
  intro n
  induction n with
  | zero => intro i acc h1 h2; omega
  | succ n ih =>
    intro i acc h1 h2 h3
    show sh2 acc ss (Int.ofNat ss.length) (i : Int) f1 (f2 n) = _
    unfold sh2
    by_cases hi : i < ss.length
    · rw [iltT (show (i : Int) < Int.ofNat ss.length by simp; omega), inbT hi, toNat_nat, getD_lt hi, capI (by omega), wrapS i (by omega), condT, chkT, chkT, ih (i + 1) _ (by omega) hi (by simp [h3]), drop_lt hi, List.map_cons, List.append_assoc]
      rfl
    · have : i = ss.length := by omega
      subst this
      rw [iltF (by simp), List.drop_length]
      simp [condF]
theorem inner (K : (List Int) → (List Int) → Nat → Nat → Int → Int → R) (S : List Int) (b : Int) (hb : 0 ≤ b ∧ b ≤ 1073741824) (lo cnt : Nat) (x y : Int) :
    ∀ (n k : Nat) (kv : Int) (out : List Int), (b - kv).toNat = k → k < n → 0 ≤ kv → kv ≤ b → out.length + k ≤ 20000 → f6 K n S out b kv lo cnt x y = f5 K S (out ++ rangeZ kv k) lo cnt x y := by
  intro n
  induction n with
  | zero => intro k kv out h1 h2; omega
  | succ n ih =>
    intro k kv out h1 h2 h3 h4 h5
    show sh6 S out b kv lo cnt x y (f5 K) (f6 K n) = _
    unfold sh6
    by_cases hk : kv < b
    · obtain ⟨k', rfl⟩ : ∃ k', k = k' + 1 := ⟨k - 1, by omega⟩
      rw [iltT hk, condT, capI (by omega), chkT, wrapI (by omega) (by omega), ih k' (kv + 1) _ (by omega) (by omega) (by omega) (by omega) (by simp; omega)]
      simp only [rangeZ, List.append_assoc, List.singleton_append]
    · have : k = 0 := by omega
      subst this
      rw [iltF hk, condF]
      simp [rangeZ]
theorem outer (S : List Int) (hS : S.Pairwise (fun x y => x < y)) (hb : ∀ n, n ∈ S → 0 ≤ n ∧ n ≤ 1073741824) (hlen : 0 < S.length) (hl : S.length ≤ 10000) : ∀ (n i : Nat) (out : List Int), S.length < n + i → i < S.length → out.length + (gaps (S.drop i)).length ≤ 20000 →
    f4 n S out 1 (S.length - 1) (Int.ofNat (S.length - 1)) (i : Int) = f3 (out ++ gaps (S.drop i)) := by
  intro n
  induction n with
  | zero => intro i out h1 h2; omega
  | succ n ih =>
    intro i out h1 h2 h3
    show sh4 S out 1 (S.length - 1) (Int.ofNat (S.length - 1)) (i : Int) f3 (f6 (f4 n) 100000) = _
    unfold sh4
    by_cases hi : i + 1 < S.length
    · have e : S.drop i = S[i] :: S[i + 1] :: S.drop (i + 2) := by rw [drop_lt h2, drop_lt hi]
      have hlt := List.pairwise_iff_getElem.1 hS i (i + 1) h2 hi (by omega)
      have b1 := hb _ (List.getElem_mem h2)
      have b2 := hb _ (List.getElem_mem hi)
      rw [e] at h3 ⊢
      simp only [gaps, List.length_append, rangeZ_length] at h3 ⊢
      rw [iltT (show (i : Int) < Int.ofNat (S.length - 1) by simp; omega), inbT (show i < S.length - 1 by omega), toNat_nat, nltT (show 1 + i < S.length by omega), inbT h2, nltT h2, getD_lt (show 1 + i < S.length by omega), getD_lt h2, wrapI (by omega) (by omega)]
      simp only [condT, chkT]
      have e2 : S[1 + i]'(by omega) = S[i + 1] := by congr 1; omega
      rw [e2, inner (f4 n) S S[i + 1] b2 1 (S.length - 1) _ _ 100000 (S[i + 1] - S[i] - 1).toNat (S[i] + 1) out (by omega) (by omega) (by omega) (by omega) (by omega)]
      show f4 n S _ 1 (S.length - 1) (Int.ofNat (S.length - 1)) (IntKind.wrap .i64 ((i : Int) + 1)) = _
      have e3 : S.drop (i + 1) = S[i + 1] :: S.drop (i + 2) := drop_lt hi
      rw [wrapS i (by omega), ih (i + 1) _ (by omega) hi (by rw [e3]; simp only [List.length_append, rangeZ_length]; omega), e3, List.append_assoc]
    · have : i = S.length - 1 := by omega
      rw [iltF (show ¬ (i : Int) < Int.ofNat (S.length - 1) by simp; omega), condF]
      have e : S.drop i = [S[i]] := by rw [drop_lt h2, List.drop_eq_nil_of_le (by omega)]
      rw [e]
      simp [gaps]
theorem f0_eq (l : List Msg) (node : List UInt8) : f0 l node = some (.tup [.ful 0, .int .i64 (misE l node)], [(0, .rows .int (misL l node))]) := by
  show sh0 l node (f2 100000) = _
  unfold sh0 misL misE
  cases hvn : validB l && nameB node
  · rfl
  simp only [cond_true, Bool.not_true, cond_false]
  rw [show ((0 : Int) != (0 : Int)) = false from rfl, condF]
  rw [Bool.and_eq_true] at hvn
  have hlen := (valid_keys hvn.1).2
  obtain ⟨n1, n2, n3, n4⟩ := nos_facts (node := node) hvn.1
  have hL : (nosL l node).length = (ofL l node).length := by unfold nosL sortI; rw [List.length_mergeSort, List.length_map]
  rw [show (List.filter (fun m => Msg.nd m == node) (sortM l)) = ofL l node from rfl, len0]
  by_cases h0 : (ofL l node).length = 0
  · rw [show ((ofL l node).length == 0) = true by simpa using h0, show Nat.beq (nosL l node).length 0 = true by rw [hL, h0]; rfl]
    rfl
  rw [show ((ofL l node).length == 0) = false by simpa using h0, condF, show Nat.beq (nosL l node).length 0 = false by rw [hL]; cases h : (ofL l node).length with | zero => exact absurd h h0 | succ k => rfl]
  refine (collect (ofL l node) (by omega) 100000 0 [] (by omega) (by omega) rfl).trans ?_
  rw [List.drop_zero, List.nil_append]
  show sh1 ((ofL l node).map Msg.no) (f4 100000) = _
  unfold sh1
  rw [show sortI ((ofL l node).map Msg.no) = nosL l node from rfl]
  have hpos : 0 < (nosL l node).length := by omega
  rw [List.length_map, nltT (show 0 < (ofL l node).length by omega), nleT (show (ofL l node).length ≤ 100000 by omega), wrapP0 _ (by omega) (by omega), inbT (show (nosL l node).length - 1 < (nosL l node).length by omega), toNat_nat, nltT (show (nosL l node).length - 1 < (nosL l node).length by omega), inb0 hpos, nltT hpos]
  have bl := n3 _ (mem_of_getD (show (nosL l node).length - 1 < (nosL l node).length by omega))
  have bf := n3 _ (mem_of_getD hpos)
  have hN : Int.ofNat (nosL l node).length = (((nosL l node).length : Nat) : Int) := rfl
  rw [show d_int = 0 from rfl, wrapI (x := List.getD (nosL l node) ((nosL l node).length - 1) 0 - List.getD (nosL l node) 0 0) (by omega) (by omega), wrapI (x := List.getD (nosL l node) ((nosL l node).length - 1) 0 - List.getD (nosL l node) 0 0 + 1) (by omega) (by omega), wrapI (by rw [hN]; omega) (by rw [hN]; omega)]
  simp only [Bool.and_self, chkT]
  rw [show List.getD (nosL l node) ((nosL l node).length - 1) 0 = lastZ (nosL l node) from rfl]
  cases hfull : ilt 1000 (lastZ (nosL l node) - List.getD (nosL l node) 0 0 + 1 - Int.ofNat (nosL l node).length)
  · have hg := iltN hfull
    obtain ⟨a, S, hS⟩ : ∃ a S, nosL l node = a :: S := by
      cases h : nosL l node with
      | nil => rw [h] at hpos; cases hpos
      | cons a S => exact ⟨a, S, rfl⟩
    have hgl : (gaps (nosL l node)).length ≤ 1000 := by
      have := gaps_length S a (by rw [← hS]; exact n1)
      rw [← hS] at this
      rw [hS] at hg
      rw [← hS] at hg
      have h1 : List.getD (nosL l node) 0 0 = a := by rw [hS]; rfl
      have h2 : (nosL l node).length = S.length + 1 := by rw [hS]; rfl
      rw [h1, h2] at hg
      simp at hg
      omega
    rw [condF, ileT (show (0 : Int) ≤ 1 by decide), ileT (show (1 : Int) ≤ Int.ofNat (nosL l node).length by simp; omega), ileT (Int.le_refl _)]
    simp only [Bool.and_self, chkT, toNat_ofNat]
    refine (outer (nosL l node) n1 n3 hpos (by omega) 100000 0 [] (by omega) hpos (by rw [List.drop_zero]; simp; omega)).trans ?_
    rw [List.drop_zero, List.nil_append]
    rfl
  · rfl
theorem ok : CtxOk Try.prog X := ctxOk tab (by
  intro p hp
  simp only [List.mem_cons, List.not_mem_nil, or_false] at hp
  rcases hp with rfl
  · exact ofM.spOk) (by
  intro p hp
  cases hp)
theorem okM : MOk Try.prog X := mspecOf_ok _ (by
  intro p hp
  simp only [List.mem_cons, List.not_mem_nil, or_false] at hp
  rcases hp with rfl
  · exact sortIOk rfl ok)
theorem spec (l : List Msg) (node : List UInt8) : CallSpec Try.prog E 29 [(.lst .msg l), (.str node)] (.tup [(.ful 0), (.int .i64 (misE l node))]) [(0, .rows .int (misL l node))] :=
  runFn_sound ok okM Try.call29 Try.func29 (by kernel_rfl) (by kernel_rfl) (by kernel_rfl) (by show 2 ≤ 84; decide) (by decide) (by rfl) ((run l node).trans (f0_eq l node))
noncomputable def sp : Sp U El := fun args k => match args with
  | [.lst .msg l, .str node] => k (.tup [(.ful 0), (.int .i64 (misE l node))]) [(0, .rows .int (misL l node))]
  | _ => none
theorem spOk : SpOk Try.prog E 29 sp where
  det := fun vs => by
    unfold sp
    split
    · exact ⟨some (_, _), fun _ => rfl⟩
    · exact ⟨none, fun _ => rfl⟩
  ok := fun vs k r h => by
    unfold sp at h
    split at h
    · exact ⟨_, _, spec _ _, h⟩
    · cases h
end missC
end Go.Proofs.Ytkeplmpcijigaaa
