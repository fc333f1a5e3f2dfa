/- slices.Grow of nil and slices.Clone of nothing, by hand: contracts of the lift. -/
import Derived.Test.YtnhmhcobpbilhaaDoorV
import Derived.Test.YtnhmhcobpbilhaaDoorLT
import Derived.Deep.LoopGhost
import Derived.Deep.RegionLaw
import Derived.Lib.AppendZeros
import Derived.Lib.SliceRun
namespace Go.Proofs.YtnhmhcobpbilhaaDoor
set_option linter.unusedSectionVars false
set_option linter.unusedSimpArgs false
set_option linter.unusedVariables false
open Go.ChangeShapes Go.WideShapes Go.ChangeAt Go.RowKit

theorem step_append_run2 {P : Program} {ops : Array Oper} {o : Oper} {a : Act} {w w' : World} {K : Act → World → Prop} {Q : Exit → Act → World → Prop} {F : Prop} (hg : o.guard = none) (s x : Operand) (t t' : TypeId) (hop : o.op = .call ⟨.builtin .append, #[s, x], #[t, t']⟩)
    {vs vx v' : Value} (hs : a.eval s = vs) (hx : a.eval x = vx) (hrun : (Builtin.append_ #[t, t'] o.type #[vs, vx]).run P w = .ok v' w') (hK : K (a.put o.dst v') w') :
    if Region.wanted o (yielded ops a.tmps) = true then Oper.wp P o a w K Q else F := by
  have hw : Region.wanted o (yielded ops a.tmps) = true := by simp [Region.wanted, hg]
  rw [if_pos hw]
  unfold Oper.wp execOp
  simp only [hop, resolve, invoke, builtin, Sem.run_bind, Sem.run_pure, Result.andThen_ok, List.map_toArray, List.map_cons, List.map_nil, hs, hx, hrun]
  exact hK

abbrev DF : TypeId := 34
set_option maxRecDepth 1000000 in
theorem grow_walk0 (w : World) : Calls Tryd.prog 61 #[.slice none 0 0, .int .i64 0] w fun e w' => e = .returned (.slice none 0 0) ∧ w' = w := by
  go_enter Tryd.func61, Tryd.ntmps61
  go_wp2_with fail
  go_ret
  exact ⟨rfl, rfl⟩
set_option maxHeartbeats 4000000 in
set_option maxRecDepth 1000000 in
theorem grow_walk (n : Nat) (h0 : 0 < n) (h1 : n ≤ 4000) (w : World) : Calls Tryd.prog 61 #[.slice none 0 0, .int .i64 (n : Int)] w fun e w' => ∃ cap cells, e = .returned (.slice (some ⟨w.heap.size, 0, none⟩) 0 cap) ∧ w' = w.drew.alloc (.cells cells DF) ∧ cells.size = cap * 4 := by
  have mixed : Tryd.prog.follows .mixedOrders = true := by kernel_rfl
  obtain ⟨ie, hi, his, hib, z, hz, hzl⟩ : ∃ ie, Tryd.prog.info? DF = some ie ∧ ie.size = 4 ∧ ie.bytes = 40 ∧ ∃ z, ie.zero = some z ∧ z.cells.size = 4 :=
    ⟨_, Tryd.type34, rfl, rfl, _, rfl, rfl⟩
  have hrun := Lib.run_append_nil_zeros (P := Tryd.prog) w 22 3 22 DF ie z .i64 .i64 Tryd.underlying22 Tryd.underlying3 hi hz n h0 (by omega) (by omega) (by rw [hib]; omega)
  have hge := grownCap_ge w n 0 DF
  obtain ⟨cap, hcap⟩ : ∃ cap, cap = grownCap w n 0 DF := ⟨_, rfl⟩
  obtain ⟨cells, hcells⟩ : ∃ cells, cells = Builtin.zeroCells z.cells n ++ Builtin.zeroCells z.cells (grownCap w n 0 DF - n) := ⟨_, rfl⟩
  rw [← hcells, ← hcap] at hrun
  rw [← hcap] at hge
  have hsz : cells.size = cap * 4 := by
    rw [hcells, ← hcap]
    simp only [Array.size_append, size_zeroCells, hzl, ← Nat.add_mul]
    congr 1
    omega
  obtain ⟨W, hW⟩ : ∃ W, W = w.drew.alloc (.cells cells DF) := ⟨_, rfl⟩
  rw [← hW] at hrun
  have hend : W = w.drew.alloc (.cells cells DF) ∧ cells.size = cap * 4 := ⟨hW, hsz⟩
  clear hW hsz hcells hcap hib hz hzl hi his
  have hgt : (0 : Int) < n := by omega
  go_enter Tryd.func61, Tryd.ntmps61
  go_wp2_with (refine Lib.wpList_append_run _ rfl _ _ 22 3 rfl _ _ rfl rfl _ _ hrun ?_)
  go_ret
  exact ⟨cap, cells, rfl, rfl, hend.2⟩

/-- a row of no elements, of the call's own -/
theorem emptyRow {X : Ctx U El} {S : Nat → Prop} {ρ : Rho} {w : World} {B : Bd} (u : U) : BlkRel X.E S ρ w B ⟨0, 0, X.E.sz u, 0⟩ (.rows u []) :=
  ⟨rfl, rfl, by simp, fun h => absurd rfl h⟩

noncomputable def growSp : SpM U El := fun d args st k => match args with
  | [.nils, .int .i64 n] => chk (ile 0 n && ile n 4000) (k (.ful d) ⟨(st.forget d).t, (d, .rows .df []) :: (st.forget d).h⟩)
  | _ => none
theorem growOk {X : Ctx U El} (hE : X.E = E) (hX : CtxOk Tryd.prog X) : SpMOk Tryd.prog X 61 growSp := by
  refine ⟨Tryd.call61, ?_⟩
  intro B S0 w0 S ρ st a w d args vs k r hi hr hv
  unfold growSp at hv
  split at hv
  · rename_i n
    obtain ⟨hck, hk⟩ := chk_some hv
    simp only [Bool.and_eq_true, ile, decide_eq_true_eq] at hck
    obtain ⟨hn0, hn1⟩ := hck
    obtain ⟨n, rfl⟩ := Int.eq_ofNat_of_zero_le hn0
    obtain ⟨v1, v2, rfl, r1, r2⟩ : ∃ v1 v2, vs = #[v1, v2] ∧ Rel X.E S ρ w .nils v1 ∧ Rel X.E S ρ w (.int .i64 n) v2 := by
      obtain ⟨h1, h2⟩ := hr
      match vs, h1, h2 with
      | ⟨[v1, v2]⟩, _, h2 => exact ⟨v1, v2, rfl, h2 0 _ v1 rfl rfl, h2 1 _ v2 rfl rfl⟩
    cases r1; cases r2
    have hf := hi.forget hX d
    have hrd : (ρ.del d) d = none := by simp [Rho.del]
    by_cases h0 : n = 0
    · subst h0
      refine (grow_walk0 w).mono ?_
      rintro e w' ⟨rfl, rfl⟩
      have hadd := hf.add (s := d) (u := .df) (xs := []) (l := ⟨0, 0, X.E.sz .df, 0⟩) hrd (fun ρ' => emptyRow .df) (fun j b l' _ _ _ h => absurd rfl h)
      exact ⟨_, .ful d, _, S, _, rfl, hk, hadd, .fulN d ⟨0, 0, X.E.sz .df, 0⟩ (by simp [Rho.set]) rfl rfl⟩
    · refine (grow_walk n (by omega) (by omega) w).mono ?_
      rintro e w' ⟨cap, cells, rfl, rfl, hsz⟩
      have hlt := hi.heap.lt
      have hs : SameAt (fun _ => False) w (w.drew.alloc (.cells cells DF)) := ⟨rfl, rfl, rfl, by simp, Nat.le_succ _, fun k hk _ => Below.heap_alloc w.drew _ k hk⟩
      have hg := hf.grew hs
      have hsz4 : X.E.sz .df = 4 := by rw [hE]; rfl
      have htid : X.E.tid .df = DF := by rw [hE]; rfl
      have hadd := hg.add (s := d) (u := .df) (xs := []) (l := ⟨w.heap.size, cap * 4, 4, 0⟩) hrd (fun ρ' => ⟨by rw [hsz4], rfl, by simp, fun hn => ⟨hi.hB _ (Nat.le_refl _), fun h => Nat.lt_irrefl _ (hlt _ h), cells, by rw [htid]; exact heap_alloc_new w.drew _, hsz, fun i x j c hx => by simp at hx⟩⟩)
        (fun j b l' hj hlj hn _ => by
          obtain ⟨l2, hl2, hb2⟩ := hf.heap.get j b hj
          rw [hlj] at hl2; cases hl2
          have := (hb2.lt hn).1
          show l'.b ≠ w.heap.size
          omega)
      exact ⟨_, .ful d, _, S, _, rfl, hk, hadd, .ful d cap ⟨w.heap.size, cap * 4, 4, 0⟩ (by simp [Rho.set]) (Nat.le_refl _) (Nat.zero_le _)⟩
  · cases hv

/-! slices.Clone of an empty list -/
theorem eqIn_nsl {P : Program} {w : World} {t e : TypeId} (d cap : Nat) (hu : P.underlying t = some (.slice e)) : (Op.equalIn (d + 1) t (.slice none 0 cap) (.slice none 0 0)).run P w = .ok true w := by
  simp [Op.equalIn, run_underlying hu]
theorem nilEq (cap : Nat) (W : World) : (binOp .eql 22 (.slice none 0 cap) (.slice none 0 0)).run Tryd.prog W = .ok (.bool true) W :=
  run_eqlB rfl (eqIn_nsl _ cap Tryd.underlying22)
theorem someEq (ao : Addr) (cap : Nat) (W : World) : (binOp .eql 22 (.slice (some ao) 0 cap) (.slice none 0 0)).run Tryd.prog W = .ok (.bool false) W :=
  run_eqlB rfl (eqIn_sn _ ao 0 cap Tryd.underlying22)
set_option maxRecDepth 1000000 in
theorem clone_walk0 (cap : Nat) (w : World) : Calls Tryd.prog 23 #[.slice none 0 cap] w fun e w' => e = .returned (.slice none 0 0) ∧ w' = w := by
  have he := nilEq cap
  go_enter Tryd.func23, Tryd.ntmps23
  go_wp2_with fail
  exact bodyPost_ret (results_tmp rfl _ _ _) rfl ⟨rfl, rfl⟩
set_option maxRecDepth 1000000 in
theorem clone_walk1 (ao : Addr) (cap : Nat) (w : World) : Calls Tryd.prog 23 #[.slice (some ao) 0 cap] w fun e w' => e = .returned (.slice (some ⟨w.heap.size, 0, none⟩) 0 0) ∧ w' = w.alloc (.cells #[] DF) := by
  have he := someEq ao cap
  have hrun : ∀ W, (Builtin.append_ #[22, 22] 22 #[.slice (some ⟨w.heap.size, 0, none⟩) 0 0, .slice (some ao) 0 cap]).run Tryd.prog W = .ok (.slice (some ⟨w.heap.size, 0, none⟩) 0 0) W := fun W => by
    obtain ⟨ie, hi⟩ : ∃ ie, Tryd.prog.info? DF = some ie := ⟨_, Tryd.type34⟩
    simp [Builtin.append_, run_underlying Tryd.underlying22, sizeOf, typeInfo, hi, Builtin.lenOf, Builtin.firstCells, loadCells, loadCellsFrom, storeCells]
  go_enter Tryd.func23, Tryd.ntmps23
  go_wp2_with (refine Lib.wpList_append_run _ rfl _ _ 22 22 rfl _ _ rfl rfl _ _ (hrun _) ?_)
  exact bodyPost_ret (results_tmp rfl _ _ _) rfl ⟨rfl, rfl⟩

namespace cloneA0
theorem spec : CallSpec Tryd.prog E 23 [(.lst .df [])] (.ful 0) [(0, .rows .df [])] := by
  refine ⟨Tryd.call23, (fun id b h => ?_), fun S w vs hlt hG hr => ?_⟩
  · simp only [hget] at h
    by_cases e : 0 = id
    · omega
    · rw [nbeq_ne e] at h; cases h
  obtain ⟨v1, rfl, r1⟩ := one_val hr
  obtain ⟨ao, cap, rfl⟩ : ∃ ao cap, v1 = .slice ao 0 cap := by
    generalize hxs : ([] : List Df) = xs at r1
    cases r1 with
    | lstE _ ao cap => exact ⟨ao, cap, rfl⟩
    | lst _ _ b off cap _ _ _ _ _ => subst hxs; exact ⟨_, cap, rfl⟩
  cases ao with
  | none =>
    refine (clone_walk0 cap w).mono ?_
    rintro e w' ⟨rfl, rfl⟩
    refine ⟨_, S, fun j => if j = 0 then some ⟨0, 0, 4, 0⟩ else none, rfl, ⟨Fr.refl _ _, fun _ h => h, fun _ h => .inl h, fun _ _ h => (by cases h), hlt⟩, ⟨fun id b h => ?_, fun i j b b' l l' hi hj hne hli hlj hn hn' => ?_, hlt⟩, .fulN 0 ⟨0, 0, 4, 0⟩ rfl rfl rfl⟩
    · simp only [hget] at h
      by_cases e : 0 = id
      · subst e; rw [Nat.beq_refl] at h; cases h; exact ⟨⟨0, 0, 4, 0⟩, rfl, rfl, rfl, by simp, fun h => absurd rfl h⟩
      · rw [nbeq_ne e] at h; cases h
    · by_cases e : i = 0
      · rw [if_pos e] at hli; cases hli; exact absurd rfl hn
      · rw [if_neg e] at hli; cases hli
  | some ao =>
    refine (clone_walk1 ao cap w).mono ?_
    rintro e w' ⟨rfl, rfl⟩
    refine ⟨_, S, fun j => if j = 0 then some ⟨w.heap.size, 0, 4, 0⟩ else none, rfl, ⟨⟨rfl, rfl, rfl, by simp, Nat.le_refl _, fun k hk _ => Below.heap_alloc w _ k hk⟩, fun _ h => h, fun _ h => .inl h, fun _ _ h => (by cases h), hlt⟩, ⟨fun id b h => ?_, fun i j b b' l l' hi hj hne hli hlj hn hn' => ?_, fun b hb => by have := hlt b hb; simp; omega⟩, .ful 0 0 ⟨w.heap.size, 0, 4, 0⟩ rfl (by simp) (Nat.le_refl _)⟩
    · simp only [hget] at h
      by_cases e : 0 = id
      · subst e; rw [Nat.beq_refl] at h; cases h; exact ⟨⟨w.heap.size, 0, 4, 0⟩, rfl, rfl, rfl, by simp, fun h => absurd rfl h⟩
      · rw [nbeq_ne e] at h; cases h
    · by_cases e : i = 0
      · rw [if_pos e] at hli; cases hli; exact absurd rfl hn
      · rw [if_neg e] at hli; cases hli
end cloneA0
namespace cloneF
noncomputable def bd : Code := (Tryd.f23.body).getD .skip
noncomputable def X : Ctx U El := ⟨E, tds, zeros, eqs, specOf [], 100000, 8, fun _ => none⟩
noncomputable def nmR : Norm U := ⟨[(2, .df)], [2], [2], [], [], []⟩
noncomputable def RR : Kont U El := fun st => normK nmR st (retFin [2] [2])
noncomputable def fr0 (l : List Df) : St U El := ⟨[(0, (.lst .df l))], []⟩
noncomputable def sh0 (l : List Df) : R :=
  chk (nlt 0 (List.length l)) (chk (nle ((List.length ([] : List Df) + List.length l) * 40) 140737488355328 && nle (List.length ([] : List Df) + List.length l) 9223372036854775807) (some ((.ful 0), [(0, .rows .df (([] : List Df) ++ l))])))
theorem P0 (l : List Df) : exec X (cdp [] bd) .d (fr0 l) RR (fun _ _ => none) RR = sh0 l := by kernel_rfl
noncomputable def f0 (l : List Df) : R := sh0 l
theorem T0 (l : List Df) : exec X bd .d (fr0 l) RR (fun _ _ => none) RR = f0 l := by
  refine (P0 l).trans ?_
  show _ = sh0 l
  rfl
theorem run (l : List Df) : runFn X bd .d nmR [2] [2] [(.lst .df l)] = f0 l := T0 l
theorem f0_eq (l : List Df) (h : (nlt 0 (List.length l) && nle (List.length l) 1005) = true) : f0 l = some ((.ful 0), [(0, .rows .df l)]) := by
  simp only [nlt, nle, Bool.and_eq_true, decide_eq_true_eq] at h
  show sh0 l = _
  unfold sh0
  rw [show nlt 0 (List.length l) = true from decide_eq_true h.1, show (nle ((List.length ([] : List Df) + List.length l) * 40) 140737488355328 && nle (List.length ([] : List Df) + List.length l) 9223372036854775807) = true from Bool.and_eq_true_iff.2 ⟨decide_eq_true (by simp; omega), decide_eq_true (by simp; omega)⟩]
  rfl
theorem ok : CtxOk Tryd.prog X := ctxOk tab (by
  intro p hp
  cases hp)
theorem okM : MOk Tryd.prog X := fun g sp h => by cases h
theorem spec (l : List Df) (h : ((nlt 0 (List.length l) && nle (List.length l) 1005)) = true) : CallSpec Tryd.prog E 23 [(.lst .df l)] (.ful 0) [(0, .rows .df (l))] :=
  runFn_sound ok okM Tryd.call23 Tryd.func23 (by kernel_rfl) (by kernel_rfl) (by kernel_rfl) (by show 1 ≤ 8; decide) (by decide) (by rfl) ((run l).trans (f0_eq l h))
noncomputable def sp : Sp U El := fun args k => match args with
  | [.lst .df l] => chk ((nlt 0 (List.length l) && nle (List.length l) 1005)) (k (.ful 0) [(0, .rows .df (l))])
  | _ => none
theorem spOk : SpOk Tryd.prog E 23 sp where
  det := fun vs => by
    unfold sp
    split
    · rename_i l
      cases hb : ((nlt 0 (List.length l) && nle (List.length l) 1005))
      · exact ⟨none, fun _ => rfl⟩
      · exact ⟨some (_, _), fun _ => rfl⟩
    · exact ⟨none, fun _ => rfl⟩
  ok := fun vs k r h => by
    unfold sp at h
    split at h
    · obtain ⟨h1, h2⟩ := chk_some h
      exact ⟨_, _, spec _ h1, h2⟩
    · cases h
end cloneF
namespace cloneA
noncomputable def sp : Sp U El := fun args k => match args with
  | [.lst .df l] => chk (nle (List.length l) 1005) (k (.ful 0) [(0, .rows .df l)])
  | _ => none
theorem spOk : SpOk Tryd.prog E 23 sp where
  det := fun vs => by
    unfold sp
    split
    · rename_i l
      cases hb : (nle (List.length l) 1005)
      · exact ⟨none, fun _ => rfl⟩
      · exact ⟨some (_, _), fun _ => rfl⟩
    · exact ⟨none, fun _ => rfl⟩
  ok := fun vs k r h => by
    unfold sp at h
    split at h
    · rename_i l
      obtain ⟨h1, h2⟩ := chk_some h
      match l, h1, h2 with
      | [], h1, h2 => exact ⟨_, _, cloneA0.spec, h2⟩
      | d :: l, h1, h2 => exact ⟨_, _, cloneF.spec (d :: l) (Bool.and_eq_true_iff.2 ⟨rfl, h1⟩), h2⟩
    · cases h
end cloneA
end Go.Proofs.YtnhmhcobpbilhaaDoor
