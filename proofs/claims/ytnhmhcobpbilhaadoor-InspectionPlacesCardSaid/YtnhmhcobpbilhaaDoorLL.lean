/- A region that draws its order: whatever order is drawn, the outcome is the one that the abstract run has in the order of the text. -/
import Derived.Test.YtnhmhcobpbilhaaDoorLL0
namespace Go.Proofs.YtnhmhcobpbilhaaDoor
set_option linter.unusedVariables false
set_option linter.unusedSectionVars false
set_option linter.unusedSimpArgs false
open Go.RowKit
section
variable {U : Type} {El : U → Type} {P : Program} {X : Ctx U El} {S S0 : Nat → Prop} {ρ : Rho} {w w0 : World} [DecidableEq U]
variable {o : Oper} {a : Act} {st : St U El} {B d : Nat} {r : Fin U El}

def dstOf (ops : Array Oper) (i : Nat) : Option Nat := (ops[i]?).bind (·.dst)
def idsOf (ops : Array Oper) (i : Nat) : List Nat := match ops[i]? with | some o => newIds o (o.dst.getD 999) | none => []
def looksOf (ops : Array Oper) (i : Nat) : List Nat := match ops[i]? with | some o => Oper.looks (ops.toList.map (·.dst)) o | none => []

/-- operation i, given its operands as T has them and the blocks h, comes to v and the blocks nw -/
def OpFact (P : Program) (X : Ctx U El) (ops : Array Oper) (Q : Exit → Act → World → Prop) (i : Nat) (T : Nat → AV U El) (h : Heap U El) (v : AV U El) (nw : Heap U El) : Prop :=
  ∀ (S : Nat → Prop) (ρ : Rho) (w : World) (a : Act) (B : Nat) (H : Heap U El) (K : Act → World → Prop),
    (∀ x ∈ looksOf ops i, Rel X.E S ρ w (T x) (a.tmps.getD x undef)) → HRel X.E S ρ w B H → (∀ id b, hget h id = some b → hget H id = some b) → (∀ id ∈ idsOf ops i, ρ id = none) → X.E.G w →
    (∀ v' w' S' ρ', Step S ρ w S' ρ' w' → Rel X.E S' ρ' w' v v' → HRel X.E S' ρ' w' w.heap.size nw → (∀ id b, hget nw id = some b → id ∈ idsOf ops i) → (∀ id, id ∉ idsOf ops i → ρ' id = ρ id) → K (a.put (dstOf ops i) v') w') →
    wpOp P ops Q i K a w

theorem looks_op {ops : Array Oper} {o : Oper} {x : Nat} (h : Operand.tmp x ∈ o.op.operands) : x ∈ Oper.looks (ops.toList.map (·.dst)) o := by
  unfold Oper.looks
  refine List.mem_append_left _ (List.mem_filterMap.2 ⟨.tmp x, by simpa using h, rfl⟩)
theorem looks_guard {ops : Array Oper} {o : Oper} {j g : Nat} {want : Bool} (hg : o.guard = some (j, want)) (hd : (match (ops.toList.map (·.dst))[j]? with | some d => d | none => none) = some g) : g ∈ Oper.looks (ops.toList.map (·.dst)) o := by
  unfold Oper.looks
  refine List.mem_append_right _ ?_
  rw [hg]
  simp only
  split at hd
  · rename_i e; rw [e, hd]; simp
  · cases hd

/-- the trace of a drawn region's abstract run -/
structure Trace (P : Program) (X : Ctx U El) (ops : Array Oper) (Q : Exit → Act → World → Prop) (h0 : Heap U El) (j : Nat) (t : Tmps U El) (news : List (Nat × Heap U El)) (k : St U El → Option (Fin U El)) (r : Fin U El)
    (v : Nat → AV U El) (nw : Nat → Heap U El) (T : Nat → Nat → AV U El) (N : Nat → List (Nat × Heap U El)) (st' : St U El) : Prop where
  T0 : ∀ x, T j x = tget t x
  N0 : N j = news
  stepT : ∀ i, j ≤ i → i < ops.size → ∀ x, T (i + 1) x = if dstOf ops i = some x then v i else T i x
  stepN : ∀ i, j ≤ i → i < ops.size → N (i + 1) = (i, nw i) :: N i
  fact : ∀ i, j ≤ i → i < ops.size → OpFact P X ops Q i (T i) (hsub (N i) ((ancs ops.toList []).getD i []) ++ h0) (v i) (nw i)
  endT : ∀ x, tget st'.t x = T ops.size x
  endH : st'.h = (N ops.size).flatMap (·.2) ++ h0
  endK : k st' = some r

theorem refineT {t : Tmps U El} {g : Nat} {b : Bool} (hg : tget t g = .bool b) (x : Nat) : tget ((g, .bool b) :: t) x = tget t x := by
  simp only [tget]
  by_cases e : g = x
  · subst e; rw [Nat.beq_refl, hg]; rfl
  · rw [nbeq_ne e]; rfl

theorem drawOps_trace {k : St U El → Option (Fin U El)} {ops : Array Oper} {Q : Exit → Act → World → Prop} {h0 : Heap U El} (hX : CtxOk P X) :
    ∀ (os : List Oper) (j : Nat) (t : Tmps U El) (news : List (Nat × Heap U El)), ops.toList.drop j = os → j + os.length = ops.size → drawOps X (ops.toList.map (·.dst)) (ancs ops.toList []) h0 os j t news k = some r →
    ∃ v nw T N st', Trace P X ops Q h0 j t news k r v nw T N st' := by
  intro os
  induction os with
  | nil =>
    intro j t news hd hj hv
    simp only [drawOps] at hv
    simp only [List.length_nil, Nat.add_zero] at hj
    subst hj
    exact ⟨fun _ => .any, fun _ => [], fun _ => tget t, fun _ => news, _, fun _ => rfl, rfl, fun i h1 h2 => by omega, fun i h1 h2 => by omega, fun i h1 h2 => by omega, fun _ => rfl, rfl, hv⟩
  | cons o os ih =>
    intro j t news hd hj hv
    have ho : ops[j]? = some o := by
      have : (ops.toList.drop j)[0]? = some o := by rw [hd]; rfl
      rw [List.getElem?_drop] at this
      simpa using this
    have hd' : ops.toList.drop (j + 1) = os := by rw [← List.drop_drop, hd]; rfl
    have hj' : j + 1 + os.length = ops.size := by simp only [List.length_cons] at hj; omega
    have hdst : dstOf ops j = o.dst := by simp [dstOf, ho]
    have hids : idsOf ops j = newIds o (o.dst.getD 999) := by simp [idsOf, ho]
    have hlooks : looksOf ops j = Oper.looks (ops.toList.map (·.dst)) o := by simp [looksOf, ho]
    -- one step joined to the rest
    have join : ∀ (t1 : Tmps U El) (e : Nat) (av : AV U El) (nwj : Heap U El), o.dst = some e → (∀ x, tget t1 x = tget t x) → OpFact P X ops Q j (tget t) (hsub news ((ancs ops.toList []).getD j []) ++ h0) av nwj →
        drawOps X (ops.toList.map (·.dst)) (ancs ops.toList []) h0 os (j + 1) ((e, av) :: t1) ((j, nwj) :: news) k = some r → ∃ v nw T N st', Trace P X ops Q h0 j t news k r v nw T N st' := by
      intro t1 e av nwj he ht1 hfact hv'
      obtain ⟨v, nw, T, N, st', htr⟩ := ih (j + 1) _ _ hd' hj' hv'
      refine ⟨fun i => if i = j then av else v i, fun i => if i = j then nwj else nw i, fun i => if i = j then tget t else T i, fun i => if i = j then news else N i, st', ?_⟩
      refine ⟨fun x => by simp, by simp, fun i h1 h2 x => ?_, fun i h1 h2 => ?_, fun i h1 h2 => ?_, fun x => ?_, ?_, htr.endK⟩
      · by_cases e1 : i = j
        · subst e1
          rw [if_neg (by omega)]
          simp only [if_true]
          rw [htr.T0, hdst, he]
          simp only [tget, Option.some.injEq]
          by_cases e2 : e = x
          · rw [if_pos e2, e2, Nat.beq_refl]; rfl
          · rw [if_neg e2, nbeq_ne e2]; exact ht1 x
        · rw [if_neg (by omega), if_neg e1, if_neg e1]
          exact htr.stepT i (by omega) h2 x
      · by_cases e1 : i = j
        · subst e1
          rw [if_neg (by omega)]
          simp only [if_true]
          exact htr.N0
        · rw [if_neg (by omega), if_neg e1, if_neg e1]
          exact htr.stepN i (by omega) h2
      · by_cases e1 : i = j
        · subst e1; simp only [if_true]; exact hfact
        · simp only [if_neg e1]; exact htr.fact i (by omega) h2
      · rw [if_neg (by simp only [List.length_cons] at hj; omega)]; exact htr.endT x
      · rw [if_neg (by simp only [List.length_cons] at hj; omega)]; exact htr.endH
    simp only [drawOps] at hv
    -- the operation itself
    have doit : ∀ (t1 : Tmps U El), (∀ x, tget t1 x = tget t x) → (∀ (S : Nat → Prop) (ρ : Rho) (w : World) (a : Act), (∀ x ∈ looksOf ops j, Rel X.E S ρ w (tget t x) (a.tmps.getD x undef)) → Region.wanted o (yielded ops a.tmps) = true) →
        withTest o t1 (fun t' => match o.dst with
          | some d => evalOp X o t' (hsub news ((ancs ops.toList []).getD j []) ++ h0) d fun out => drawOps X (ops.toList.map (·.dst)) (ancs ops.toList []) h0 os (j + 1) ((d, out.v) :: t') ((j, out.new) :: news) k
          | none => none) = some r → ∃ v nw T N st', Trace P X ops Q h0 j t news k r v nw T N st' := by
      intro t1 ht1 hwant hw
      obtain ⟨t', hk, hor⟩ := withTest_some hw
      have ht' : ∀ x, tget t' x = tget t x := by
        rcases hor with rfl | ⟨g, b, hg, rfl⟩
        · exact ht1
        · exact fun x => (refineT hg x).trans (ht1 x)
      cases hod : o.dst with
      | none => rw [hod] at hk; cases hk
      | some e =>
        rw [hod] at hk
        simp only at hk
        -- the outcome does not hang on the world: take it once, and show the fact for all
        obtain ⟨out, hk', hall⟩ := (evalOp_det (X := X) (o := o) (t := t') (h := hsub news ((ancs ops.toList []).getD j []) ++ h0) (d := e) (fun f vs => by obtain ⟨oo, h⟩ := hX.det f vs; exact ⟨oo, fun k => h (fun r e => k (r, e))⟩)).k hk
        refine join t' e out.v out.new hod ht' ?_ hk'
        intro S ρ w a B H K hT hH hs hfr hG hn
        have hde : o.dst.getD 999 = e := by rw [hod]; rfl
        rw [hids, hde] at hfr hn
        have hT' : TRel X.E S ρ w o t' a := fun i hi => by
          rw [ht' i]
          exact hT i (by rw [hlooks]; exact looks_op hi)
        -- a continuation that tells this outcome from every other
        classical
        obtain ⟨out', ho1, ho2⟩ := evalOp_sound (P := P) (r := r) (k := fun x => if x = out then some r else none) hX (by rw [hall]; simp) hT' hH hs hfr hG
        have : out' = out := by
          by_cases e : out' = out
          · exact e
          · simp [e] at ho1
        subst this
        unfold wpOp
        rw [ho]
        simp only [hwant S ρ w a hT, if_true]
        refine .inl (ho2 K Q fun v w' S' ρ' h1 h2 h3 h4 h5 => ?_)
        rw [← hdst]
        exact hn v w' S' ρ' h1 h2 h3 h4 h5
    unfold guardOf at hv
    cases hgd : o.guard with
    | none =>
      rw [hgd] at hv
      simp only at hv
      exact doit t (fun _ => rfl) (fun _ _ _ _ _ => by simp [Region.wanted, hgd]) hv
    | some jw =>
      obtain ⟨gj, want⟩ := jw
      rw [hgd] at hv
      simp only at hv
      split at hv
      · rename_i h; cases h
      · rename_i g want' heq
        simp only [Option.some.injEq, Prod.mk.injEq] at heq
        obtain ⟨hdg, rfl⟩ := heq
        have skip : ∀ (t1 : Tmps U El), (∀ x, tget t1 x = tget t x) → (∀ (S : Nat → Prop) (ρ : Rho) (w : World) (a : Act), (∀ x ∈ looksOf ops j, Rel X.E S ρ w (tget t x) (a.tmps.getD x undef)) → Region.wanted o (yielded ops a.tmps) = false) →
            (match o.dst with | some d => drawOps X (ops.toList.map (·.dst)) (ancs ops.toList []) h0 os (j + 1) ((d, .tup []) :: t1) ((j, []) :: news) k | none => none) = some r → ∃ v nw T N st', Trace P X ops Q h0 j t news k r v nw T N st' := by
          intro t1 ht1 hwant hv'
          cases hod : o.dst with
          | none => rw [hod] at hv'; cases hv'
          | some e =>
            rw [hod] at hv'
            refine join _ e (.tup []) [] hod ht1 ?_ hv'
            intro S ρ w a B H K hT hH hs hfr hG hn
            unfold wpOp
            rw [ho]
            simp only [hwant S ρ w a hT, Bool.false_eq_true, if_false]
            have := hn undef w S ρ (Step.refl hH.lt) undef_rel (HRel.nil hH.lt _) (by simp [hget]) (fun _ _ => rfl)
            rw [hdst] at this
            exact this
        rcases gbranch_some hv with ⟨b, hb, hv'⟩ | ⟨hb, hv'⟩
        · have hwb : ∀ (S : Nat → Prop) (ρ : Rho) (w : World) (a : Act), (∀ x ∈ looksOf ops j, Rel X.E S ρ w (tget t x) (a.tmps.getD x undef)) → Region.wanted o (yielded ops a.tmps) = (!(Bool.xor b want)) := fun S ρ w a hT => by
            have := hT g (by rw [hlooks]; exact looks_guard hgd hdg)
            rw [hb] at this
            generalize hq : a.tmps.getD g undef = q at this
            cases this
            exact guard_some hgd hdg hq
          cases hx : Bool.xor b want with
          | true =>
            rw [hx] at hv'
            simp only [cond] at hv'
            exact skip _ (refineT hb) (fun S ρ w a hT => by rw [hwb S ρ w a hT, hx]; rfl) hv'
          | false =>
            rw [hx] at hv'
            simp only [cond] at hv'
            exact doit _ (refineT hb) (fun S ρ w a hT => by rw [hwb S ρ w a hT, hx]; rfl) hv'
        · have hx : Bool.xor (!want) want = true := by cases want <;> rfl
          rw [hx] at hv'
          simp only [cond] at hv'
          refine skip t (fun _ => rfl) (fun S ρ w a hT => ?_) hv'
          have := hT g (by rw [hlooks]; exact looks_guard hgd hdg)
          rw [hb] at this
          exact guard_undef hgd hdg (rel_undef this)
      · cases hv
end
end Go.Proofs.YtnhmhcobpbilhaaDoor
