/- strconv.Itoa: the kit's shelf's contract at this program's numbers (as the shelf's tool lays it), and as a contract of the lift. -/
import Derived.Shelf.LaysM
import Derived.Shelf.Strconv.Itoa2
import Derived.Shelf.Strconv.Itoa3
import Derived.Test.YtnhmhcobpbilhaaDoorV
namespace Go.Proofs.YtnhmhcobpbilhaaDoor
set_option linter.unusedSectionVars false
set_option linter.unusedVariables false
set_option linter.unusedSimpArgs false
open Go.Shelf Go.Lib Go.Sort
def laysM171_ren : Go.Shelf.Ren := ⟨fun | 171 => 53 | 243 => 65 | 246 => 79 | 283 => 85 | 284 => 86 | 285 => 87 | 286 => 88 | 129 => 77 | 317 => 90 | 318 => 91 | 319 => 92 | 320 => 93 | 337 => 94 | 338 => 95 | n => n, fun | 3 => 3 | 9 => 9 | 2 => 2 | 4 => 4 | 171 => 117 | 0 => 0 | 53 => 107 | 37 => 74 | 5 => 5 | 173 => 119 | 212 => 124 | 51 => 105 | 20 => 20 | 213 => 125 | 46 => 91 | 232 => 126 | 233 => 127 | n => n, fun | 17 => 0 | 18 => 1 | 19 => 2 | n => n⟩
theorem laysM171 : Go.Proofs.LaysM.n171 Tryd.prog laysM171_ren := {
  mixed := by kernel_rfl
  f129 := Tryd.func77.trans (congrArg some (by kernel_rfl))
  f171 := Tryd.func53.trans (congrArg some (by kernel_rfl))
  f243 := Tryd.func65.trans (congrArg some (by kernel_rfl))
  f246 := Tryd.func79.trans (congrArg some (by kernel_rfl))
  f283 := Tryd.func85.trans (congrArg some (by kernel_rfl))
  f284 := Tryd.func86.trans (congrArg some (by kernel_rfl))
  f285 := Tryd.func87.trans (congrArg some (by kernel_rfl))
  f286 := Tryd.func88.trans (congrArg some (by kernel_rfl))
  f317 := Tryd.func90.trans (congrArg some (by kernel_rfl))
  f318 := Tryd.func91.trans (congrArg some (by kernel_rfl))
  f319 := Tryd.func92.trans (congrArg some (by kernel_rfl))
  f320 := Tryd.func93.trans (congrArg some (by kernel_rfl))
  f337 := Tryd.func94.trans (congrArg some (by kernel_rfl))
  f338 := Tryd.func95.trans (congrArg some (by kernel_rfl))
  t0 := Tryd.underlying0
  a0 := Tryd.isAgg0
  z0 := Tryd.sizeOf0
  v0 := Tryd.zeroValue0
  t2 := Tryd.underlying2
  a2 := Tryd.isAgg2
  z2 := Tryd.sizeOf2
  v2 := Tryd.zeroValue2
  t3 := Tryd.underlying3
  a3 := Tryd.isAgg3
  z3 := Tryd.sizeOf3
  v3 := Tryd.zeroValue3
  t4 := Tryd.underlying4
  a4 := Tryd.isAgg4
  z4 := Tryd.sizeOf4
  v4 := Tryd.zeroValue4
  t5 := Tryd.underlying5
  a5 := Tryd.isAgg5
  z5 := Tryd.sizeOf5
  v5 := Tryd.zeroValue5
  t9 := Tryd.underlying9
  a9 := Tryd.isAgg9
  z9 := Tryd.sizeOf9
  v9 := Tryd.zeroValue9
  t20 := Tryd.underlying20
  a20 := Tryd.isAgg20
  z20 := Tryd.sizeOf20
  v20 := Tryd.zeroValue20
  t37 := Tryd.underlying74
  a37 := Tryd.isAgg74
  z37 := Tryd.sizeOf74
  v37 := Tryd.zeroValue74
  t46 := Tryd.underlying91
  a46 := Tryd.isAgg91
  z46 := Tryd.sizeOf91
  v46 := Tryd.zeroValue91
  t51 := Tryd.underlying105
  a51 := Tryd.isAgg105
  z51 := Tryd.sizeOf105
  v51 := Tryd.zeroValue105
  t53 := Tryd.underlying107
  a53 := Tryd.isAgg107
  z53 := Tryd.sizeOf107
  v53 := Tryd.zeroValue107
  t171 := Tryd.underlying117
  a171 := Tryd.isAgg117
  z171 := Tryd.sizeOf117
  v171 := Tryd.zeroValue117
  t173 := Tryd.underlying119
  a173 := Tryd.isAgg119
  z173 := Tryd.sizeOf119
  v173 := Tryd.zeroValue119
  t212 := Tryd.underlying124
  a212 := Tryd.isAgg124
  z212 := Tryd.sizeOf124
  v212 := Tryd.zeroValue124
  t213 := Tryd.underlying125
  a213 := Tryd.isAgg125
  z213 := Tryd.sizeOf125
  t232 := Tryd.underlying126
  a232 := Tryd.isAgg126
  z232 := Tryd.sizeOf126
  v232 := Tryd.zeroValue126
  t233 := Tryd.underlying127
  a233 := Tryd.isAgg127
  z233 := Tryd.sizeOf127
  v233 := Tryd.zeroValue127
  g17 := by kernel_rfl
  g18 := by kernel_rfl
  g19 := by kernel_rfl
  i0 := by kernel_rfl
  i2 := by kernel_rfl
  i3 := by kernel_rfl
  i4 := by kernel_rfl
  i5 := by kernel_rfl
  i9 := by kernel_rfl
  i20 := by kernel_rfl
  i37 := by kernel_rfl
  i46 := by kernel_rfl
  i51 := by kernel_rfl
  i53 := by kernel_rfl
  i171 := by kernel_rfl
  i173 := by kernel_rfl
  i212 := by kernel_rfl
  i232 := by kernel_rfl
  i233 := by kernel_rfl
  m17 := by kernel_rfl
  m18 := by kernel_rfl
  m19 := by kernel_rfl }
open Go.RowKit Go.Sort Go.Lib in
theorem strconv_Itoa (n : Int) (h0 : -9223372036854775808 ≤ n) (h1 : n ≤ 9223372036854775807) (w : World) (htab : Lib.TabIs Tryd.prog w "internal/strconv.uint64pow10" .u64 Lib.pow10Tab) :
    Calls Tryd.prog 53 #[.int .i64 n] w fun e w' => e = .returned (.string ⟨(Lib.itoa n).toArray⟩) ∧ ∃ k os, w' = grow (w.drewN k) os := Any.strconv_Itoa laysM171 n h0 h1 w htab

theorem heap_grow_o (w : World) (k : Nat) (os : Array Obj) (g : Nat) (h : g < w.heap.size) : (grow (w.drewN k) os).heap[g]? = w.heap[g]? := by
  show (w.heap ++ os)[g]? = _
  rw [Array.getElem?_append_left h]
theorem size_grow_o (w : World) (k : Nat) (os : Array Obj) : w.heap.size ≤ (grow (w.drewN k) os).heap.size := by
  show w.heap.size ≤ (w.heap ++ os).size
  rw [Array.size_append]
  omega
namespace itoa
noncomputable def sp : Sp U El := fun args k => match args with
  | [.int .i64 n] => chk (ile (-9223372036854775808) n && ile n 9223372036854775807) (k (.str (Lib.itoa n)) [])
  | _ => none
theorem spec (n : Int) (h0 : -9223372036854775808 ≤ n) (h1 : n ≤ 9223372036854775807) : CallSpec Tryd.prog E 53 [.int .i64 n] (.str (Lib.itoa n)) [] := by
  refine ⟨Tryd.call53, (fun id b h => by cases h), fun S w vs hlt hG hr => ?_⟩
  obtain ⟨v1, rfl, r1⟩ := one_val hr
  cases r1
  refine (strconv_Itoa n h0 h1 w hG).mono ?_
  rintro e w' ⟨rfl, k, os, rfl⟩
  refine ⟨_, S, _, rfl, ⟨⟨rfl, rfl, rfl, size_grow_o w k os, Nat.le_add_right _ _, fun j hj _ => heap_grow_o w k os j hj⟩, fun _ h => h, fun _ h => .inl h, fun _ _ h => h, hlt⟩, HRel.nil (fun b hb => Nat.lt_of_lt_of_le (hlt b hb) (size_grow_o w k os)) _, .str _⟩
theorem spOk : SpOk Tryd.prog E 53 sp where
  det := fun vs => by
    unfold sp
    split
    · rename_i n
      cases hb : (ile (-9223372036854775808) n && ile n 9223372036854775807)
      · exact ⟨none, fun _ => rfl⟩
      · exact ⟨some (_, _), fun _ => rfl⟩
    · exact ⟨none, fun _ => rfl⟩
  ok := fun vs k r h => by
    unfold sp at h
    split at h
    · obtain ⟨h1, h2⟩ := chk_some h
      simp only [ile, Bool.and_eq_true, decide_eq_true_eq] at h1
      exact ⟨_, _, spec _ h1.1 h1.2, h2⟩
    · cases h
end itoa
end Go.Proofs.YtnhmhcobpbilhaaDoor
