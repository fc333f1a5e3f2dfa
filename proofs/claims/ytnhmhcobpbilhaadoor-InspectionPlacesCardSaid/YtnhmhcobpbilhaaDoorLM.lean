/- A region that draws its order, on: every order leads to the abstract run's outcome. -/
import Derived.Test.YtnhmhcobpbilhaaDoorLL
namespace Go.Proofs.YtnhmhcobpbilhaaDoor
set_option linter.unusedVariables false
set_option linter.unusedSectionVars false
set_option linter.unusedSimpArgs false
open Go.RowKit
section
variable {U : Type} {El : U → Type} {P : Program} {X : Ctx U El} {S S0 : Nat → Prop} {ρ : Rho} {w w0 : World} [DecidableEq U]
variable {o : Oper} {a : Act} {st : St U El} {B d : Nat} {r : Fin U El}

theorem HRel.congr {E : Univ U El} {H H' : Heap U El} (h : HRel E S ρ w B H) (he : ∀ id, hget H' id = hget H id) : HRel E S ρ w B H' :=
  ⟨fun id b hg => h.get id b (by rw [← he]; exact hg), fun i j b b' l l' hi hj => h.inj i j b b' l l' (by rw [← he]; exact hi) (by rw [← he]; exact hj), h.lt⟩

/-- what is asked of the region, of its operations one by one -/
structure DrawFacts (ops : Array Oper) (nt : Nat) : Prop where
  dst : ∀ i, i < ops.size → ∃ e, dstOf ops i = some e ∧ e < nt ∧ 0 < e ∧ e < 1000
  uniq : ∀ i j, i < ops.size → j < ops.size → dstOf ops i = dstOf ops j → i = j
  back : ∀ i o, ops[i]? = some o → ∀ e ∈ o.after, Region.binds .any e = true → e.on < i
  looks : ∀ i k x, i < ops.size → k < ops.size → k ≠ i → dstOf ops k = some x → x ∈ looksOf ops i → (k < i → k ∈ (ancs ops.toList []).getD i []) ∧ (i < k → i ∈ (ancs ops.toList []).getD k [])
  ancOk : ∀ i o, ops[i]? = some o → (ancs ops.toList []).getD i [] = ancOf (ancs ops.toList []) o

theorem ancs_acc : ∀ (os : List Oper) (acc : List (List Nat)), ∃ tl, ancs os acc = acc ++ tl ∧ tl.length = os.length := by
  intro os
  induction os with
  | nil => intro acc; exact ⟨[], by simp [ancs], rfl⟩
  | cons o os ih =>
    intro acc
    obtain ⟨tl, h1, h2⟩ := ih (acc ++ [ancOf acc o])
    exact ⟨ancOf acc o :: tl, by simp [ancs, h1], by simp [h2]⟩

/-- the ancestors of operation i hang on those before it alone -/
theorem ancs_get : ∀ (os : List Oper) (acc : List (List Nat)) (i : Nat) (o : Oper), os[i]? = some o → ∃ pre, (ancs os acc)[acc.length + i]? = some (ancOf pre o) ∧ pre.length = acc.length + i ∧ ∀ k, k < pre.length → (ancs os acc)[k]? = pre[k]? := by
  intro os
  induction os with
  | nil => intro acc i o h; simp at h
  | cons p os ih =>
    intro acc i o h
    obtain ⟨tl, h1, h2⟩ := ancs_acc os (acc ++ [ancOf acc p])
    have hun : ancs (p :: os) acc = ancs os (acc ++ [ancOf acc p]) := rfl
    cases i with
    | zero =>
      simp at h
      subst h
      refine ⟨acc, ?_, by simp, fun k hk => ?_⟩
      · rw [hun, h1]; simp
      · rw [hun, h1, List.append_assoc, List.getElem?_append_left hk]
    | succ i =>
      obtain ⟨pre, g1, g2, g3⟩ := ih (acc ++ [ancOf acc p]) i o (by simpa using h)
      refine ⟨pre, ?_, by simp at g2; omega, fun k hk => by rw [hun]; exact g3 k hk⟩
      rw [hun]
      rw [show acc.length + (i + 1) = (acc ++ [ancOf acc p]).length + i by simp; omega]
      exact g1

theorem drawFacts {ops : Array Oper} {nt : Nat} (h : drawOk nt ops.toList = true) : DrawFacts ops nt := by
  unfold drawOk at h
  simp only [Bool.and_eq_true] at h
  obtain ⟨⟨⟨h1, h2⟩, h3⟩, h4⟩ := h
  have mem : ∀ i o, ops[i]? = some o → (o, i) ∈ ops.toList.zipIdx := fun i o ho => by
    rw [List.mem_zipIdx_iff_getElem?]
    simpa using ho
  have hb : ∀ i o, ops[i]? = some o → ∀ e ∈ o.after, Region.binds .any e = true → e.on < i := fun i o ho e he hbind => by
    have := List.all_eq_true.1 h1 _ (mem i o ho)
    have := List.all_eq_true.1 this e (by simpa using he)
    rw [hbind] at this
    exact Nat.le_of_ble_eq_true (by simpa [Nat.blt] using this)
  have hd : ∀ i, i < ops.size → ∃ o e, ops[i]? = some o ∧ o.dst = some e ∧ e < nt ∧ 0 < e ∧ e < 1000 := fun i hi => by
    have ho : ops[i]? = some ops[i] := Array.getElem?_eq_getElem hi
    have := List.all_eq_true.1 h2 _ (mem i _ ho)
    dsimp only at this
    split at this
    · rename_i e he
      simp only [Bool.and_eq_true] at this
      exact ⟨_, e, ho, he, Nat.le_of_ble_eq_true this.1.1, Nat.le_of_ble_eq_true this.1.2, Nat.le_of_ble_eq_true this.2⟩
    · cases this
  have pair : ∀ i k o p, ops[i]? = some o → ops[k]? = some p → i ≠ k → ∀ e x, o.dst = some e → p.dst = some x → x ≠ e ∧ (x ∈ Oper.looks (ops.toList.map (·.dst)) o → (bif Nat.blt k i then ((ancs ops.toList []).getD i []).contains k else ((ancs ops.toList []).getD k []).contains i) = true) := fun i k o p ho hp hne e x he hx => by
    have := List.all_eq_true.1 (List.all_eq_true.1 h3 _ (mem i o ho)) _ (mem k p hp)
    dsimp only at this
    rw [nbeq_ne hne, hx, he] at this
    simp only [Bool.false_or, Bool.and_eq_true, Bool.not_eq_true', Bool.or_eq_true] at this
    refine ⟨fun e' => ?_, fun hm => ?_⟩
    · rw [e', Nat.beq_refl] at this; simp at this
    · rcases this.2 with h | h
      · exfalso
        rw [List.contains_eq_mem] at h
        simp at h
        exact h hm
      · exact h
  refine ⟨fun i hi => ?_, fun i j hi hj he => ?_, hb, fun i k x hi hk hne hx hl => ?_, fun i o ho => ?_⟩
  · obtain ⟨o, e, ho, he, h⟩ := hd i hi
    exact ⟨e, by simp [dstOf, ho, he], h⟩
  · by_cases h : i = j
    · exact h
    · exfalso
      obtain ⟨o, e, ho, heo, _⟩ := hd i hi
      obtain ⟨p, x, hp, hxp, _⟩ := hd j hj
      simp [dstOf, ho, hp, heo, hxp] at he
      exact (pair i j o p ho hp h e x heo hxp).1 he.symm
  · obtain ⟨o, e, ho, heo, _⟩ := hd i hi
    obtain ⟨p, x', hp, hxp, _⟩ := hd k hk
    have : x' = x := by simpa [dstOf, hp, hxp] using hx
    subst this
    have := (pair i k o p ho hp (Ne.symm hne) e x' heo hxp).2 (by simpa [looksOf, ho] using hl)
    refine ⟨fun hlt => ?_, fun hlt => ?_⟩
    · have hb : Nat.blt k i = true := Nat.ble_eq_true_of_le hlt
      rw [hb] at this
      simpa [List.contains_eq_mem] using this
    · have hb : Nat.blt k i = false := by
        cases e : Nat.blt k i with
        | false => rfl
        | true => have := Nat.le_of_ble_eq_true e; omega
      rw [hb] at this
      simpa [List.contains_eq_mem] using this
  · obtain ⟨pre, g1, g2, g3⟩ := ancs_get ops.toList [] i o (by simpa using ho)
    simp only [List.length_nil, Nat.zero_add] at g1 g2
    rw [List.getD_eq_getElem?_getD, g1]
    simp only [Option.getD_some]
    unfold ancOf
    have : ∀ e ∈ o.after.toList, (bif Region.binds .any e then e.on :: pre.getD e.on [] else []) = (bif Region.binds .any e then e.on :: (ancs ops.toList []).getD e.on [] else []) := fun e he => by
      cases hbd : Region.binds .any e with
      | false => rfl
      | true =>
        have hlt := hb i o ho e (by simpa using he) hbd
        simp only [cond]
        rw [List.getD_eq_getElem?_getD, List.getD_eq_getElem?_getD, g3 e.on (by omega)]
    rw [List.flatMap_def, List.flatMap_def, List.map_congr_left this]

theorem newIds_dst {o : Oper} {d id : Nat} (h : id ∈ newIds o d) : id = d ∨ ∃ i, i < 4 ∧ id = d * 1000 + i := by
  unfold newIds at h
  split at h <;> first
    | (simp at h; exact .inl h)
    | (simp at h; rcases h with h | h; exact .inl h; exact .inr ⟨0, Nat.succ_pos 3, h.trans (Nat.add_zero _).symm⟩)
    | exact .inr (callIds_mem.1 h)
    | (simp at h; done)

theorem ids_apart {ops : Array Oper} {nt : Nat} (hf : DrawFacts ops nt) {i j id : Nat} (hi : i < ops.size) (hj : j < ops.size) (h1 : id ∈ idsOf ops i) (h2 : id ∈ idsOf ops j) : i = j := by
  obtain ⟨e, he, _, he0, he1⟩ := hf.dst i hi
  obtain ⟨x, hx, _, hx0, hx1⟩ := hf.dst j hj
  refine hf.uniq i j hi hj ?_
  rw [he, hx]
  congr 1
  have ho : ops[i]? = some ops[i] := Array.getElem?_eq_getElem hi
  have hp : ops[j]? = some ops[j] := Array.getElem?_eq_getElem hj
  simp only [idsOf, ho] at h1
  simp only [idsOf, hp] at h2
  have e1 : ops[i].dst = some e := by simpa [dstOf, ho] using he
  have e2 : ops[j].dst = some x := by simpa [dstOf, hp] using hx
  rw [e1, Option.getD_some] at h1
  rw [e2, Option.getD_some] at h2
  rcases newIds_dst h1 with a1 | ⟨p, hp1, a1⟩ <;> rcases newIds_dst h2 with a2 | ⟨q, hq1, a2⟩ <;> omega

section main
variable {ops : Array Oper} {Q : Exit → Act → World → Prop} {t0 : Tmps U El} {h0 : Heap U El} {k : St U El → Option (Fin U El)} {v : Nat → AV U El} {nw : Nat → Heap U El} {T : Nat → Nat → AV U El} {N : Nat → List (Nat × Heap U El)} {st' : St U El}

theorem trace_T (htr : Trace P X ops Q h0 0 t0 [] k r v nw T N st') (hf : DrawFacts ops X.nt) : ∀ i, i ≤ ops.size → (∀ j x, j < i → dstOf ops j = some x → T i x = v j) ∧ ∀ x, (∀ j, j < i → dstOf ops j ≠ some x) → T i x = tget t0 x := by
  intro i
  induction i with
  | zero => intro _; exact ⟨fun j x h => by omega, fun x _ => htr.T0 x⟩
  | succ i ih =>
    intro hi
    obtain ⟨h1, h2⟩ := ih (by omega)
    refine ⟨fun j x hj hx => ?_, fun x hx => ?_⟩
    · rw [htr.stepT i (Nat.zero_le _) (by omega) x]
      by_cases e : j = i
      · subst e; rw [if_pos hx]
      · rw [if_neg (fun h => e (hf.uniq j i (by omega) (by omega) (hx.trans h.symm)))]
        exact h1 j x (by omega) hx
    · rw [htr.stepT i (Nat.zero_le _) (by omega) x, if_neg (hx i (by omega))]
      exact h2 x (fun j hj => hx j (by omega))

theorem trace_N (htr : Trace P X ops Q h0 0 t0 [] k r v nw T N st') (A : List Nat) : ∀ i, i ≤ ops.size → ∀ id b, hget (hsub (N i) A) id = some b → ∃ j, j < i ∧ j ∈ A ∧ hget (nw j) id = some b := by
  intro i
  induction i with
  | zero => intro _ id b hg; rw [htr.N0] at hg; simp [hsub, hget] at hg
  | succ i ih =>
    intro hi id b hg
    rw [htr.stepN i (Nat.zero_le _) (by omega)] at hg
    simp only [hsub, List.flatMap_cons] at hg
    rw [hget_append] at hg
    cases hc : A.contains i with
    | true =>
      rw [hc] at hg
      simp only [cond] at hg
      cases he : hget (nw i) id with
      | some b' => rw [he] at hg; cases hg; exact ⟨i, by omega, by simpa [List.contains_eq_mem] using hc, he⟩
      | none =>
        rw [he] at hg
        obtain ⟨j, h1, h2, h3⟩ := ih (by omega) id b hg
        exact ⟨j, by omega, h2, h3⟩
    | false =>
      rw [hc] at hg
      obtain ⟨j, h1, h2, h3⟩ := ih (by omega) id b hg
      exact ⟨j, by omega, h2, h3⟩
theorem trace_Nall (htr : Trace P X ops Q h0 0 t0 [] k r v nw T N st') : ∀ i, i ≤ ops.size → (∀ id b, hget ((N i).flatMap (·.2)) id = some b → ∃ j, j < i ∧ hget (nw j) id = some b) ∧ ∀ j id b, j < i → hget (nw j) id = some b → hget ((N i).flatMap (·.2)) id ≠ none := by
  intro i
  induction i with
  | zero => intro _; rw [htr.N0]; exact ⟨by simp [hget], fun j id b h => by omega⟩
  | succ i ih =>
    intro hi
    obtain ⟨h1, h2⟩ := ih (by omega)
    rw [htr.stepN i (Nat.zero_le _) (by omega)]
    simp only [List.flatMap_cons]
    refine ⟨fun id b hg => ?_, fun j id b hj hg => ?_⟩
    · rw [hget_append] at hg
      cases he : hget (nw i) id with
      | some b' => rw [he] at hg; cases hg; exact ⟨i, by omega, he⟩
      | none =>
        rw [he] at hg
        obtain ⟨j, a1, a2⟩ := h1 id b hg
        exact ⟨j, by omega, a2⟩
    · rw [hget_append]
      cases he : hget (nw i) id with
      | some b' => simp
      | none =>
        have : j ≠ i := by rintro rfl; rw [he] at hg; cases hg
        exact h2 j id b (by omega) hg

/-- what holds when some of the operations have come up -/
structure Mid (X : Ctx U El) (B : Nat) (S0 : Nat → Prop) (w0 : World) (ops : Array Oper) (t0 : Tmps U El) (h0 : Heap U El) (v : Nat → AV U El) (nw : Nat → Heap U El) (L : Nat → Prop) (S : Nat → Prop) (ρ : Rho) (H : Heap U El) (a : Act) (w : World) : Prop where
  defers : a.defers = []
  size : a.tmps.size = X.nt
  below : Below B w0 w
  hB : B ≤ w.heap.size
  s0 : ∀ b, S0 b → S b
  s1 : ∀ b, S b → S0 b ∨ B ≤ b
  g0 : ∀ w', Below B w0 w' → X.E.G w'
  t1 : ∀ i x, i < ops.size → L i → dstOf ops i = some x → Rel X.E S ρ w (v i) (a.tmps.getD x undef)
  t2 : ∀ x, (∀ i, i < ops.size → L i → dstOf ops i ≠ some x) → Rel X.E S ρ w (tget t0 x) (a.tmps.getD x undef)
  heap : HRel X.E S ρ w B H
  h1 : ∀ i id b, i < ops.size → L i → hget (nw i) id = some b → hget H id = some b
  h2 : ∀ id b, hget h0 id = some b → hget H id = some b
  h3 : ∀ id b, hget H id = some b → hget h0 id = some b ∨ ∃ i, i < ops.size ∧ L i ∧ hget (nw i) id = some b
  h4 : ∀ i id b, i < ops.size → L i → hget (nw i) id = some b → id ∈ idsOf ops i
  fresh : ∀ i, i < ops.size → ¬ L i → ∀ id ∈ idsOf ops i, ρ id = none
  closed : ∀ i o, L i → ops[i]? = some o → ∀ e ∈ o.after, Region.binds .any e = true → L e.on

theorem anc_in (hf : DrawFacts ops X.nt) {L : Nat → Prop} (hc : ∀ i o, L i → ops[i]? = some o → ∀ e ∈ o.after, Region.binds .any e = true → L e.on) : ∀ i o, ops[i]? = some o → (∀ e ∈ o.after, Region.binds .any e = true → L e.on) → ∀ k ∈ (ancs ops.toList []).getD i [], L k := by
  intro i
  induction i using Nat.strongRecOn with
  | _ i ih =>
    intro o ho hp k hk
    rw [hf.ancOk i o ho] at hk
    unfold ancOf at hk
    obtain ⟨e, he, hk⟩ := List.mem_flatMap.1 hk
    cases hb : Region.binds .any e with
    | false => rw [hb] at hk; cases hk
    | true =>
      rw [hb] at hk
      simp only [cond] at hk
      have hem : e ∈ o.after := by simpa using he
      have hL := hp e hem hb
      rcases List.mem_cons.1 hk with rfl | hk
      · exact hL
      · have hlt := hf.back i o ho e hem hb
        have hi : i < ops.size := (Array.getElem?_eq_some_iff.1 ho).1
        have ho' : ops[e.on]? = some ops[e.on] := Array.getElem?_eq_getElem (by omega)
        exact ih e.on hlt _ ho' (hc e.on _ hL ho') k hk

theorem Mid.done (htr : Trace P X ops Q h0 0 t0 [] k r v nw T N st') (hf : DrawFacts ops X.nt) {L : Nat → Prop} {H : Heap U El} (hm : Mid X B S0 w0 ops t0 h0 v nw L S ρ H a w) (hall : ∀ i, i < ops.size → L i) : StRel X B S0 w0 st' a w := by
  obtain ⟨hT1, hT2⟩ := trace_T htr hf ops.size (Nat.le_refl _)
  obtain ⟨hN1, hN2⟩ := trace_Nall htr ops.size (Nat.le_refl _)
  refine ⟨S, ρ, hm.defers, hm.size, hm.below, hm.hB, hm.s0, hm.s1, hm.g0, fun x => ?_, hm.heap.congr fun id => ?_⟩
  · rw [htr.endT]
    by_cases h : ∃ i, i < ops.size ∧ dstOf ops i = some x
    · obtain ⟨i, hi, hx⟩ := h
      rw [hT1 i x hi hx]
      exact hm.t1 i x hi (hall i hi) hx
    · rw [hT2 x (fun j hj hx => h ⟨j, hj, hx⟩)]
      exact hm.t2 x (fun i hi _ hx => h ⟨i, hi, hx⟩)
  · rw [htr.endH, hget_append]
    have fwd : ∀ b, hget ((N ops.size).flatMap (·.2)) id = some b → hget H id = some b := fun b hb => by
      obtain ⟨j, hj, hg⟩ := hN1 id b hb
      exact hm.h1 j id b hj (hall j hj) hg
    cases he : hget ((N ops.size).flatMap (·.2)) id with
    | some b => exact (fwd b he).symm
    | none =>
      simp only
      cases h0e : hget h0 id with
      | some b => exact (hm.h2 id b h0e).symm
      | none =>
        cases hH : hget H id with
        | none => rfl
        | some b =>
          rcases hm.h3 id b hH with h | ⟨i, hi, _, hg⟩
          · rw [h0e] at h; cases h
          · exact absurd he (hN2 i id b hi hg)

theorem Mid.step (hX : CtxOk P X) (htr : Trace P X ops Q h0 0 t0 [] k r v nw T N st') (hf : DrawFacts ops X.nt) {L : Nat → Prop} {H : Heap U El} (hm : Mid X B S0 w0 ops t0 h0 v nw L S ρ H a w) {i : Nat} {o : Oper} (ho : ops[i]? = some o) (hni : ¬ L i) (hp : ∀ e ∈ o.after, Region.binds .any e = true → L e.on)
    {K : Act → World → Prop} (hK : ∀ a' w' S' ρ' H', Mid X B S0 w0 ops t0 h0 v nw (fun j => L j ∨ j = i) S' ρ' H' a' w' → K a' w') : wpOp P ops Q i K a w := by
  have hi : i < ops.size := (Array.getElem?_eq_some_iff.1 ho).1
  obtain ⟨hT1, hT2⟩ := trace_T htr hf i (by omega)
  have hanc := anc_in hf hm.closed i o ho hp
  obtain ⟨e, hde, hen, he0, he1⟩ := hf.dst i hi
  refine htr.fact i (Nat.zero_le _) hi S ρ w a B H K (fun x hx => ?_) hm.heap (fun id b hg => ?_) (hm.fresh i hi hni) (hm.g0 _ hm.below) (fun v' w' S' ρ' hst hr hN hids hρ => ?_)
  · by_cases h : ∃ j, j < ops.size ∧ j ≠ i ∧ dstOf ops j = some x
    · obtain ⟨j, hj, hji, hx'⟩ := h
      obtain ⟨l1, l2⟩ := hf.looks i j x hi hj hji hx' hx
      rcases Nat.lt_or_gt_of_ne hji with hlt | hlt
      · rw [hT1 j x hlt hx']
        exact hm.t1 j x hj (hanc j (l1 hlt)) hx'
      · have hnj : ¬ L j := fun hL => hni (by
          have ho' : ops[j]? = some ops[j] := Array.getElem?_eq_getElem hj
          exact anc_in hf hm.closed j _ ho' (hm.closed j _ hL ho') i (l2 hlt))
        rw [hT2 x (fun j' hj' hx2 => by have := hf.uniq j' j (by omega) hj (hx2.trans hx'.symm); omega)]
        exact hm.t2 x (fun j' hj' hL hx2 => hnj (by have := hf.uniq j' j hj' hj (hx2.trans hx'.symm); rw [← this]; exact hL))
    · rw [hT2 x (fun j hj hx' => h ⟨j, by omega, by omega, hx'⟩)]
      exact hm.t2 x (fun j hj hL hx' => h ⟨j, hj, by rintro rfl; exact hni hL, hx'⟩)
  · rw [hget_append] at hg
    cases hs : hget (hsub (N i) ((ancs ops.toList []).getD i [])) id with
    | some b' =>
      rw [hs] at hg; cases hg
      obtain ⟨j, hj, hjA, hgj⟩ := trace_N htr _ i (by omega) id b hs
      exact hm.h1 j id b (by omega) (hanc j hjA) hgj
    | none => rw [hs] at hg; exact hm.h2 id b hg
  · have hnone : ∀ id b, hget (nw i) id = some b → hget H id = none := fun id b hg => by
      cases hH : hget H id with
      | none => rfl
      | some b' =>
        obtain ⟨l, hl, _⟩ := hm.heap.get id b' hH
        rw [hm.fresh i hi hni id (hids id b hg)] at hl
        cases hl
    have hput : ∀ x, (a.put (some e) v').tmps.getD x undef = if x = e then v' else a.tmps.getD x undef := fun x => by
      simp only [Act.put, Array.getD_eq_getD_getElem?]
      by_cases h : x = e
      · subst h
        rw [if_pos rfl, Array.getElem?_setIfInBounds_self_of_lt (by rw [hm.size]; exact hen)]
        rfl
      · rw [if_neg h, Array.getElem?_setIfInBounds_ne (Ne.symm h)]
    refine hK _ _ S' ρ' (nw i ++ H) ⟨by rw [hde]; exact hm.defers, by rw [hde]; simp [Act.put, hm.size], hm.below.trans (hst.below.mono hm.hB), Nat.le_trans hm.hB hst.below.size, fun b hb => hst.s1 b (hm.s0 b hb), fun b hb => ?_, hm.g0, fun j x hj hL hx => ?_, fun x hx => ?_, hst.heap hm.heap hN hm.hB (fun id b hg => hm.fresh i hi hni id (hids id b hg)), fun j id b hj hL hg => ?_, fun id b hg => ?_, fun id b hg => ?_, fun j id b hj hL hg => ?_, fun j hj hL id hid => ?_, fun j o' hL ho' e' he' hb' => ?_⟩
    · rcases hst.s2 b hb with h | h
      · exact hm.s1 b h
      · exact .inr (Nat.le_trans hm.hB h)
    · rw [hde, hput]
      by_cases h : j = i
      · subst h
        rw [hde] at hx; cases hx
        rw [if_pos rfl]
        exact hr
      · have : x ≠ e := by rintro rfl; exact h (hf.uniq j i hj hi (hx.trans hde.symm))
        rw [if_neg this]
        exact hst.rel (hm.t1 j x hj (hL.resolve_right h) hx)
    · have hxe : x ≠ e := by rintro rfl; exact hx i hi (.inr rfl) hde
      rw [hde, hput, if_neg hxe]
      exact hst.rel (hm.t2 x (fun j hj hL => hx j hj (.inl hL)))
    · rw [hget_append]
      rcases hL with hL | rfl
      · cases hni' : hget (nw i) id with
        | none => exact hm.h1 j id b hj hL hg
        | some b' =>
          have := ids_apart hf hj hi (hm.h4 j id b hj hL hg) (hids id b' hni')
          subst this
          exact absurd hL hni
      · rw [hg]
    · rw [hget_append]
      cases hni' : hget (nw i) id with
      | none => exact hm.h2 id b hg
      | some b' =>
        have h1 := hm.h2 id b hg
        rw [hnone id b' hni'] at h1
        cases h1
    · rw [hget_append] at hg
      cases hni' : hget (nw i) id with
      | none =>
        rw [hni'] at hg
        rcases hm.h3 id b hg with h | ⟨j, hj, hL, h⟩
        · exact .inl h
        · exact .inr ⟨j, hj, .inl hL, h⟩
      | some b' => rw [hni'] at hg; cases hg; exact .inr ⟨i, hi, .inr rfl, hni'⟩
    · rcases hL with hL | rfl
      · exact hm.h4 j id b hj hL hg
      · exact hids id b hg
    · have hji : j ≠ i := fun h => hL (.inr h)
      rw [hρ id (fun h => hji (ids_apart hf hj hi hid h))]
      exact hm.fresh j hj (fun h => hL (.inl h)) id hid
    · rcases hL with hL | rfl
      · exact .inl (hm.closed j o' hL ho' e' he' hb')
      · rw [ho] at ho'; cases ho'
        exact .inl (hp e' he' hb')

theorem draw_any (hX : CtxOk P X) (htr : Trace P X ops Q h0 0 t0 [] k r v nw T N st') (hf : DrawFacts ops X.nt) (hN : ∀ a' w', StRel X B S0 w0 st' a' w' → Q .normal a' w') :
    ∀ (fuel : Nat) (listed : Array Bool) (a : Act) (w : World) (l : List Nat), listed.size = ops.size → l.length ≤ fuel → (∀ i, i < ops.size → listed.getD i false = false → i ∈ l) →
    (∃ S ρ H, Mid X B S0 w0 ops t0 h0 v nw (fun i => listed.getD i false = true) S ρ H a w) → wpAny P .any ops Q fuel listed a w := by
  have last : ∀ (listed : Array Bool) (a : Act) (w : World), listed.size = ops.size → (∃ S ρ H, Mid X B S0 w0 ops t0 h0 v nw (fun i => listed.getD i false = true) S ρ H a w) → Region.ready .any ops listed = [] → Q .normal a w := by
    intro listed a w hsz ⟨S, ρ, H, hm⟩ hr
    refine hN a w (hm.done htr hf fun i hi => ?_)
    induction i using Nat.strongRecOn with
    | _ i ih =>
      cases hl : listed.getD i false with
      | true => rfl
      | false =>
        exfalso
        have ho : ops[i]? = some ops[i] := Array.getElem?_eq_getElem hi
        have : i ∈ Region.ready .any ops listed := mem_ready.2 ⟨by
          rw [Array.getD_eq_getD_getElem?, Array.getElem?_eq_getElem (by omega)] at hl ⊢
          exact hl, _, ho, fun e he hb => ih e.on (hf.back i _ ho e he hb) (by have := hf.back i _ ho e he hb; omega)⟩
        rw [hr] at this
        cases this
  intro fuel
  induction fuel with
  | zero =>
    intro listed a w l hsz hl hcov hm
    have hnil : Region.ready .any ops listed = [] := by
      cases hr : Region.ready .any ops listed with
      | nil => rfl
      | cons i rest =>
        exfalso
        have hmem : i ∈ Region.ready .any ops listed := by rw [hr]; simp
        obtain ⟨h0', o, ho, _⟩ := mem_ready.1 hmem
        have hi : i < ops.size := (Array.getElem?_eq_some_iff.1 ho).1
        have := hcov i hi (by
          rw [Array.getD_eq_getD_getElem?, Array.getElem?_eq_getElem (by omega)] at h0' ⊢
          exact h0')
        have : l = [] := List.eq_nil_of_length_eq_zero (by omega)
        subst this
        simp_all
    exact ⟨hnil, last listed a w hsz hm hnil⟩
  | succ fuel ih =>
    intro listed a w l hsz hl hcov hm
    refine ⟨last listed a w hsz hm, fun i hi => ?_⟩
    obtain ⟨h0', o, ho, hp⟩ := mem_ready.1 hi
    have hil : i < ops.size := (Array.getElem?_eq_some_iff.1 ho).1
    have hun : listed.getD i false = false := by
      rw [Array.getD_eq_getD_getElem?, Array.getElem?_eq_getElem (by omega)] at h0' ⊢
      exact h0'
    obtain ⟨S, ρ, H, hmid⟩ := hm
    refine hmid.step hX htr hf ho (by rw [hun]; simp) hp fun a' w' S' ρ' H' hmid' => ?_
    have hget : ∀ j, (listed.setIfInBounds i true).getD j false = if j = i then true else listed.getD j false := fun j => by
      simp only [Array.getD_eq_getD_getElem?]
      by_cases e : j = i
      · subst e; rw [if_pos rfl, Array.getElem?_setIfInBounds_self_of_lt (by omega)]; rfl
      · rw [if_neg e, Array.getElem?_setIfInBounds_ne (Ne.symm e)]
    have hmem := hcov i hil hun
    refine ih _ a' w' (l.erase i) (by simpa using hsz) (by rw [List.length_erase_of_mem hmem]; omega) (fun j hj hjl => ?_) ⟨S', ρ', H', ?_⟩
    · rw [hget] at hjl
      by_cases e : j = i
      · subst e; simp at hjl
      · rw [if_neg e] at hjl
        exact (List.mem_erase_of_ne e).2 (hcov j hj hjl)
    · have : (fun j => (listed.setIfInBounds i true).getD j false = true) = fun j => listed.getD j false = true ∨ j = i := by
        funext j
        rw [hget]
        by_cases e : j = i <;> simp [e]
      rw [this]
      exact hmid'

/-- The region. -/
theorem draw_sound {id : Nat} (hX : CtxOk P X) (hs : StRel X B S0 w0 st a w) (hok : drawOk X.nt ops.toList = true) (hN : ∀ st' a' w', StRel X B S0 w0 st' a' w' → k st' = some r → Q .normal a' w')
    (hv : drawOps X (ops.toList.map (·.dst)) (ancs ops.toList []) (st.forgets (drawIds ops.toList)).h ops.toList 0 (st.forgets (drawIds ops.toList)).t [] k = some r) : (Code.region id ops true).wp P Q a w := by
  have hf := drawFacts hok
  obtain ⟨v, nw, T, N, st', htr⟩ := drawOps_trace (P := P) (Q := Q) hX ops.toList 0 _ [] rfl (by simp) hv
  refine wp_region_any hX.mixed ?_
  obtain ⟨S, ρ, hi⟩ := hs
  have hi0 := hi.forgets hX (drawIds ops.toList)
  have hnoL : ∀ i, ¬ ((Array.replicate ops.size false).getD i false = true) := fun i => by
    rw [Array.getD_eq_getD_getElem?]
    by_cases h : i < ops.size <;> simp [h]
  have hdr : Below B w0 { w with drawn := w.drawn + 1 } := hi0.below.drew
  refine draw_any hX htr hf (fun a' w' h => hN st' a' w' h htr.endK) ops.size _ a _ (List.range ops.size) (by simp) (by simp) (fun i hi _ => by simpa using hi) ⟨S, ρ.dels (drawIds ops.toList), (st.forgets (drawIds ops.toList)).h,
    hi0.defers, hi0.size, hdr, hi0.hB, hi0.s0, hi0.s1, hi0.g0, fun i x _ hL => absurd hL (hnoL i), fun x _ => (hi0.tmps x).mono (fun _ h => h) (fun _ _ => rfl) (fun _ _ h => h), ?_, fun i _ _ _ hL => absurd hL (hnoL i), fun _ _ h => h, fun _ _ h => .inl h, fun i _ _ _ hL => absurd hL (hnoL i), fun i hi _ id hid => ?_, fun i _ hL => absurd hL (hnoL i)⟩
  · exact ⟨fun j b hg => by obtain ⟨l, h1, h2⟩ := hi0.heap.get j b hg; exact ⟨l, h1, h2.mono (fun _ h => h) (fun _ _ => rfl) (fun _ _ h => h) (fun hn => ⟨rfl, (h2.lt hn).2.2⟩)⟩, hi0.heap.inj, hi0.heap.lt⟩
  · refine dels_none _ _ id (.inr ?_)
    have ho : ops[i]? = some ops[i] := Array.getElem?_eq_getElem hi
    simp only [idsOf, ho] at hid
    exact List.mem_flatMap.2 ⟨ops[i], by simp, hid⟩
end main
end
end Go.Proofs.YtnhmhcobpbilhaaDoor
