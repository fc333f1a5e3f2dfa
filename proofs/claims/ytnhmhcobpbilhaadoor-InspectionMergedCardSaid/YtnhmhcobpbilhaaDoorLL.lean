/- A region that draws its order: whatever order is drawn, the outcome is the one that the abstract run has in the order of the text. -/
import Derived.Test.YtnhmhcobpbilhaaDoorLL0
namespace Go.Proofs.YtnhmhcobpbilhaaDoor
set_option linter.unusedVariables false
set_option linter.unusedSectionVars false
set_option linter.unusedSimpArgs false
open Go.RowKit
section
variable {U : Type} {El : U → Type} {P : Program} {X : Ctx U El} {S S0 : Nat → Prop} {ρ : Rho} {w w0 : World} [DecidableEq U]
variable {o : Oper} {a : Act} {st : St U El} {B : Bd} {d : Nat} {r : Fin U El}

def dstOf (ops : Array Oper) (i : Nat) : Option Nat := (ops[i]?).bind (·.dst)
def idsOf (ops : Array Oper) (i : Nat) : List Nat := match ops[i]? with | some o => newIds o (o.dst.getD 999) | none => []
def looksOf (ops : Array Oper) (i : Nat) : List Nat := match ops[i]? with | some o => Oper.looks (ops.toList.map (·.dst)) o | none => []

abbrev sfOf (ops : Array Oper) (ws : List (Nat × Nat)) (i : Nat) : Nat → Bool := safeB (ancs ops.toList []) (evsOf ops.toList ws) i

theorem hget_hfil (p : Nat → Bool) (h : Heap U El) (id : Nat) : hget (hfil p h) id = if p id = true then hget h id else none := by
  induction h with
  | nil => simp [hfil, hget]
  | cons q h ih =>
    obtain ⟨j, b⟩ := q
    simp only [hfil]
    cases hp : p j with
    | true =>
      simp only [cond, hget, ih]
      by_cases e : j = id
      · subst e; rw [Nat.beq_refl]; simp [hp]
      · rw [nbeq_ne e]
    | false =>
      simp only [cond, hget, ih]
      by_cases e : j = id
      · subst e; simp [hp]
      · rw [nbeq_ne e]
theorem hget_hdels (ids : List Nat) : ∀ (h : Heap U El) (id : Nat), hget (hdels h ids) id = if id ∈ ids then none else hget h id := by
  induction ids with
  | nil => intro h id; simp [hdels]
  | cons i ids ih =>
    intro h id
    simp only [hdels, ih, hget_del, List.mem_cons]
    by_cases e : id = i
    · subst e; simp
    · simp [e]

theorem HRel.congr {E : Univ U El} {H H' : Heap U El} (h : HRel E S ρ w B H) (he : ∀ id, hget H' id = hget H id) : HRel E S ρ w B H' :=
  ⟨fun id b hg => h.get id b (by rw [← he]; exact hg), fun i j b b' l l' hi hj => h.inj i j b b' l l' (by rw [← he]; exact hi) (by rw [← he]; exact hj), h.lt⟩

/-- what an operation of a drawn region comes to -/
structure OpRes (X : Ctx U El) (B : Bd) (S : Nat → Prop) (ρ : Rho) (w : World) (S' : Nat → Prop) (ρ' : Rho) (w' : World) (ids wi : List Nat) (H nw : Heap U El) (v : AV U El) (v' : Value) : Prop where
  below : Fr B w w'
  s1 : ∀ b, S b → S' b
  s2 : ∀ b, S' b → S b ∨ B.own b
  rho : ∀ id, id ∉ ids → ρ' id = ρ id
  rel : ∀ c x, Rel X.E S ρ w c x → Rel X.E S' ρ' w' c x
  heap : HRel X.E S' ρ' w' B (nw ++ hdels H wi)
  val : Rel X.E S' ρ' w' v v'

/-- operation i, given its operands as T has them and the blocks h, comes to v and the blocks nw, in place of those that it uses up -/
def OpFact (P : Program) (X : Ctx U El) (ops : Array Oper) (Q : Exit → Act → World → Prop) (ws : List (Nat × Nat)) (i : Nat) (T : Nat → AV U El) (h : Heap U El) (v : AV U El) (nw : Heap U El) : Prop :=
  ∀ (S : Nat → Prop) (ρ : Rho) (w : World) (a : Act) (B : Bd) (H : Heap U El) (K : Act → World → Prop), a.defers = [] → a.tmps.size = X.nt → (∀ k, w.heap.size ≤ k → B.own k) → (∀ w', Fr B w w' → X.E.G w') →
    (∀ x ∈ looksOf ops i, Rel X.E S ρ w (T x) (a.tmps.getD x undef)) → HRel X.E S ρ w B H → (∀ id b, sfOf ops ws i id = true → hget h id = some b → hget H id = some b) → (∀ id ∈ idsOf ops i, ρ id = none) →
    (∀ v' w' S' ρ', OpRes X B S ρ w S' ρ' w' (idsOf ops i) (wsOf ws i) H nw v v' → K (a.put (dstOf ops i) v') w') →
    wpOp P ops Q i K a w

theorem looks_op {ops : Array Oper} {o : Oper} {x : Nat} (h : Operand.tmp x ∈ o.op.operands) : x ∈ Oper.looks (ops.toList.map (·.dst)) o := by
  unfold Oper.looks
  refine List.mem_append_left _ (List.mem_filterMap.2 ⟨.tmp x, by simpa using h, rfl⟩)
theorem looks_guard {ops : Array Oper} {o : Oper} {j g : Nat} {want : Bool} (hg : o.guard = some (j, want)) (hd : (match (ops.toList.map (·.dst))[j]? with | some d => d | none => none) = some g) : g ∈ Oper.looks (ops.toList.map (·.dst)) o := by
  unfold Oper.looks
  refine List.mem_append_right _ ?_
  rw [hg]
  simp only
  split at hd
  · rename_i e; rw [e, hd]; simp
  · cases hd

/-- the trace of a drawn region's abstract run -/
structure Trace (P : Program) (X : Ctx U El) (ops : Array Oper) (Q : Exit → Act → World → Prop) (ws : List (Nat × Nat)) (j : Nat) (t : Tmps U El) (h : Heap U El) (k : St U El → Option (Fin U El)) (r : Fin U El)
    (v : Nat → AV U El) (nw : Nat → Heap U El) (T : Nat → Nat → AV U El) (Hs : Nat → Heap U El) (st' : St U El) : Prop where
  T0 : ∀ x, T j x = tget t x
  H0 : Hs j = h
  stepT : ∀ i, j ≤ i → i < ops.size → ∀ x, T (i + 1) x = if dstOf ops i = some x then v i else T i x
  stepH1 : ∀ i, j ≤ i → i < ops.size → ∀ id, (id ∈ wsOf ws i ∨ hget (nw i) id ≠ none) → hget (Hs (i + 1)) id = hget (nw i) id
  stepH2 : ∀ i, j ≤ i → i < ops.size → ∀ id, ¬ (id ∈ wsOf ws i ∨ hget (nw i) id ≠ none) → hget (Hs (i + 1)) id = hget (Hs i) id
  keys : ∀ i, j ≤ i → i < ops.size → ∀ id, hget (nw i) id ≠ none → id ∈ idsOf ops i ∨ id ∈ wsOf ws i
  fact : ∀ i, j ≤ i → i < ops.size → OpFact P X ops Q ws i (T i) (Hs i) (v i) (nw i)
  endT : ∀ x, tget st'.t x = T ops.size x
  endH : st'.h = Hs ops.size
  endK : k st' = some r

theorem refineT {t : Tmps U El} {g : Nat} {b : Bool} (hg : tget t g = .bool b) (x : Nat) : tget ((g, .bool b) :: t) x = tget t x := by
  simp only [tget]
  by_cases e : g = x
  · subst e; rw [Nat.beq_refl, hg]; rfl
  · rw [nbeq_ne e]; rfl

theorem rowsOf_mono {h H : Heap U El} {u : U} {x : AV U El} {ys : List (El u)} (hs : ∀ id b, hget h id = some b → hget H id = some b) (hy : rowsOf h u x = some ys) : rowsOf H u x = some ys := by
  cases x <;> simp only [rowsOf] at hy ⊢ <;> try exact hy
  · split at hy
    · rename_i hg; rw [hs _ _ hg]; exact hy
    · cases hy
  · split at hy
    · rename_i hg; rw [hs _ _ hg]; exact hy
    · cases hy
theorem rowsTo_mono {h H : Heap U El} {u : U} {x : AV U El} {q : List (El u) × Option Nat} (hs : ∀ id b, hget h id = some b → hget H id = some b) (hy : rowsTo h u x = some q) : rowsTo H u x = some q := by
  cases x <;> simp only [rowsTo] at hy ⊢ <;> try exact hy
  split at hy
  · rename_i hg; rw [hs _ _ hg]; exact hy
  · cases hy

theorem tget_map (l : List Nat) (T : Nat → AV U El) (x : Nat) : tget (l.map fun y => (y, T y)) x = if x ∈ l then T x else .any := by
  induction l with
  | nil => simp [tget]
  | cons y l ih =>
    simp only [List.map_cons, tget, ih]
    by_cases e : y = x
    · subst e; rw [Nat.beq_refl]; simp
    · rw [nbeq_ne e]
      simp [Ne.symm e]

theorem fact_store {ops : Array Oper} {Q : Exit → Act → World → Prop} {ws : List (Nat × Nat)} {i : Nat} {T : Nat → AV U El} {h : Heap U El} {ty : TypeId} {p v : Operand} {id : Nat} {b old : Blk U El} (hX : CtxOk P X) (hoi : ops[i]? = some o) (ho : o.op = .store ty p v) (hdst : o.dst = none) (hw : wsOf ws i = [id])
    (hwant : ∀ (S : Nat → Prop) (ρ : Rho) (w : World) (a : Act), (∀ x ∈ looksOf ops i, Rel X.E S ρ w (T x) (a.tmps.getD x undef)) → Region.wanted o (yielded ops a.tmps) = true) {t : Tmps U El} (ht : ∀ x, tget t x = T x)
    (hsf : sfOf ops ws i id = true) (hold : hget h id = some old)
    (hall : ∀ (st2 : St U El) (k2 : St U El → Option (Fin U El)), hget st2.h id = some old → storeOp X ty (oget t p) (oget t v) st2 k2 = k2 ⟨st2.t, hset st2.h id b⟩) :
    OpFact P X ops Q ws i T h .any [(id, b)] := by
  intro S ρ w a B H K hdef hsz hB hG hT hH hs hfr hn
  have hlo : looksOf ops i = Oper.looks (ops.toList.map (·.dst)) o := by simp [looksOf, hoi]
  have hd : dstOf ops i = none := by simp [dstOf, hoi, hdst]
  have htl : ∀ x : Operand, x ∈ o.op.operands → oget ((looksOf ops i).map fun y => (y, T y)) x = oget t x := fun x hx => by
    cases x with
    | tmp y =>
      show tget _ y = tget t y
      rw [tget_map, if_pos (by rw [hlo]; exact looks_op hx), ht]
    | _ => rfl
  have hHid := hs id old hsf hold
  have hi : Inv X B S w S ρ ⟨(looksOf ops i).map fun y => (y, T y), H⟩ a w := by
    refine ⟨hdef, hsz, Fr.refl B w, hB, fun _ h => h, fun _ h => .inl h, hG, fun x => ?_, hH⟩
    show Rel X.E S ρ w (tget _ x) _
    rw [tget_map]
    split
    · rename_i hx; exact hT x hx
    · exact .any _
  classical
  have hv : storeOp X ty (oget ((looksOf ops i).map fun y => (y, T y)) p) (oget ((looksOf ops i).map fun y => (y, T y)) v) ⟨(looksOf ops i).map fun y => (y, T y), H⟩ (fun st' => if st' = ⟨(looksOf ops i).map fun y => (y, T y), hset H id b⟩ then some ((.any, []) : Fin U El) else none) = some (.any, []) := by
    rw [htl p (by simp [ho, Op.operands]), htl v (by simp [ho, Op.operands]), hall _ _ hHid]
    simp
  unfold wpOp
  rw [hoi]
  simp only [hwant S ρ w a hT, if_true]
  refine .inl (storeOp_core hX ho hi hv (fun e he => by rw [hdst] at he; cases he) fun st' w' hS hinv hk => ?_)
  have : st' = ⟨(looksOf ops i).map fun y => (y, T y), hset H id b⟩ := by
    by_cases e : st' = ⟨(looksOf ops i).map fun y => (y, T y), hset H id b⟩
    · exact e
    · simp [e] at hk
  subst this
  have hput : a = a.put (dstOf ops i) undef := by rw [hd]; rfl
  rw [hput]
  refine hn undef w' S ρ ⟨hinv.below, fun _ h => h, fun _ h => .inl h, fun _ _ => rfl, fun c x hr => hr.mono (fun _ h => h) hS (fun _ _ h => h), ?_, .any _⟩
  refine hinv.heap.congr fun j => ?_
  show hget ([(id, b)] ++ hdels H (wsOf ws i)) j = hget (hset H id b) j
  rw [hw, hget_set]
  simp only [List.cons_append, List.nil_append, hget, hget_hdels, List.mem_singleton]
  by_cases e : id = j
  · subst e; rw [Nat.beq_refl, hHid, if_pos rfl]; simp
  · rw [nbeq_ne e, if_neg (Ne.symm e)]; simp [Ne.symm e]

theorem fact_mupd {ops : Array Oper} {Q : Exit → Act → World → Prop} {ws : List (Nat × Nat)} {i : Nat} {T : Nat → AV U El} {h : Heap U El} {ty : TypeId} {m ix x : Operand} {id : Nat} {b old : Blk U El} (hX : CtxOk P X) (hoi : ops[i]? = some o) (ho : o.op = .mapUpdate ty m ix x) (hdst : o.dst = none) (hw : wsOf ws i = [id])
    (hwant : ∀ (S : Nat → Prop) (ρ : Rho) (w : World) (a : Act), (∀ x ∈ looksOf ops i, Rel X.E S ρ w (T x) (a.tmps.getD x undef)) → Region.wanted o (yielded ops a.tmps) = true) {t : Tmps U El} (ht : ∀ x, tget t x = T x)
    (hsf : sfOf ops ws i id = true) (hold : hget h id = some old)
    (hall : ∀ (st2 : St U El) (k2 : St U El → Option (Fin U El)), hget st2.h id = some old → mupdOp X ty (oget t m) (oget t ix) (oget t x) st2 k2 = k2 ⟨st2.t, hset st2.h id b⟩) :
    OpFact P X ops Q ws i T h .any [(id, b)] := by
  intro S ρ w a B H K hdef hsz hB hG hT hH hs hfr hn
  have hlo : looksOf ops i = Oper.looks (ops.toList.map (·.dst)) o := by simp [looksOf, hoi]
  have hd : dstOf ops i = none := by simp [dstOf, hoi, hdst]
  have htl : ∀ x : Operand, x ∈ o.op.operands → oget ((looksOf ops i).map fun y => (y, T y)) x = oget t x := fun x hx => by
    cases x with
    | tmp y =>
      show tget _ y = tget t y
      rw [tget_map, if_pos (by rw [hlo]; exact looks_op hx), ht]
    | _ => rfl
  have hHid := hs id old hsf hold
  have hi : Inv X B S w S ρ ⟨(looksOf ops i).map fun y => (y, T y), H⟩ a w := by
    refine ⟨hdef, hsz, Fr.refl B w, hB, fun _ h => h, fun _ h => .inl h, hG, fun x => ?_, hH⟩
    show Rel X.E S ρ w (tget _ x) _
    rw [tget_map]
    split
    · rename_i hx; exact hT x hx
    · exact .any _
  classical
  have hv : mupdOp X ty (oget ((looksOf ops i).map fun y => (y, T y)) m) (oget ((looksOf ops i).map fun y => (y, T y)) ix) (oget ((looksOf ops i).map fun y => (y, T y)) x) ⟨(looksOf ops i).map fun y => (y, T y), H⟩ (fun st' => if st' = ⟨(looksOf ops i).map fun y => (y, T y), hset H id b⟩ then some ((.any, []) : Fin U El) else none) = some (.any, []) := by
    rw [htl m (by simp [ho, Op.operands]), htl ix (by simp [ho, Op.operands]), htl x (by simp [ho, Op.operands]), hall _ _ hHid]
    simp
  unfold wpOp
  rw [hoi]
  simp only [hwant S ρ w a hT, if_true]
  refine .inl (mupdOp_core hX (.inl ho) hi hv hdst fun st' w' hS hinv hk => ?_)
  have : st' = ⟨(looksOf ops i).map fun y => (y, T y), hset H id b⟩ := by
    by_cases e : st' = ⟨(looksOf ops i).map fun y => (y, T y), hset H id b⟩
    · exact e
    · simp [e] at hk
  subst this
  have hput : a = a.put (dstOf ops i) undef := by rw [hd]; rfl
  rw [hput]
  refine hn undef w' S ρ ⟨hinv.below, fun _ h => h, fun _ h => .inl h, fun _ _ => rfl, fun c x hr => hr.mono (fun _ h => h) hS (fun _ _ h => h), ?_, .any _⟩
  refine hinv.heap.congr fun j => ?_
  show hget ([(id, b)] ++ hdels H (wsOf ws i)) j = hget (hset H id b) j
  rw [hw, hget_set]
  simp only [List.cons_append, List.nil_append, hget, hget_hdels, List.mem_singleton]
  by_cases e : id = j
  · subst e; rw [Nat.beq_refl, hHid, if_pos rfl]; simp
  · rw [nbeq_ne e, if_neg (Ne.symm e)]; simp [Ne.symm e]

theorem fact_append {ops : Array Oper} {Q : Exit → Act → World → Prop} {ws : List (Nat × Nat)} {i : Nat} {T : Nat → AV U El} {h : Heap U El} {ty : TypeId} {u : U} {s x : Operand} {xs ys : List (El u)} {sid : Option Nat} (hX : CtxOk P X) (hoi : ops[i]? = some o) (ho : o.op = .call ⟨.builtin .append, #[s, x], #[ty, ty]⟩) (hdst : o.dst = some d) (hw : wsOf ws i = sid.toList)
    (hwant : ∀ (S : Nat → Prop) (ρ : Rho) (w : World) (a : Act), (∀ x ∈ looksOf ops i, Rel X.E S ρ w (T x) (a.tmps.getD x undef)) → Region.wanted o (yielded ops a.tmps) = true) {t : Tmps U El} (ht : ∀ x, tget t x = T x) (htd : tdGet X.tds ty = some (.slice u))
    (hxs : rowsTo (hfil (sfOf ops ws i) h) u (oget t s) = some (xs, sid)) (hys : rowsOf (hfil (sfOf ops ws i) h) u (oget t x) = some ys) (hb : (xs.length + ys.length) * X.E.by_ u ≤ 140737488355328) (hm : xs.length + ys.length ≤ 9223372036854775807) :
    OpFact P X ops Q ws i T h (.ful d) [(d, .rows u (xs ++ ys))] := by
  intro S ρ w a B H K hdef hsz hB hG hT hH hs hfr hn
  have hs' : ∀ id b, hget (hfil (sfOf ops ws i) h) id = some b → hget H id = some b := fun id b hg => by
    rw [hget_hfil] at hg
    split at hg
    · rename_i hsf; exact hs id b hsf hg
    · cases hg
  have hlo : looksOf ops i = Oper.looks (ops.toList.map (·.dst)) o := by simp [looksOf, hoi]
  have hids : idsOf ops i = [d] := by simp [idsOf, hoi, newIds, ho, hdst]
  have hρd : ρ d = none := hfr d (by rw [hids]; simp)
  have hopr : ∀ y ∈ o.op.operands, Rel X.E S ρ w (oget t y) (a.eval y) := fun y hy => Rel.oget fun z e => by
    subst e
    rw [ht]
    exact hT z (by rw [hlo]; exact looks_op hy)
  have hsr := hopr s (by simp [ho, Op.operands, Call.operands])
  have hxr := hopr x (by simp [ho, Op.operands, Call.operands])
  obtain ⟨old, hsv, hold⟩ := rowsTo_rel hX hH hsr (rowsTo_mono hs' hxs)
  obtain ⟨ao, cp, hxv, hsh⟩ := rowsOf_rel hX hH hxr (rowsOf_mono hs' hys)
  obtain ⟨v', w', l', hrun, hres⟩ := append_run (ot := o.type) hX hB hH.lt (hX.td _ _ htd) hsv hxv hsh hb hm
  have hrun' : (execOp a.eval o).run P w = .ok (.value v') w' := by
    simp only [execOp, ho, resolve, invoke, builtin, List.map_toArray, List.map_cons, List.map_nil, Sem.run_bind, Sem.run_pure, Result.andThen_ok, hrun]
  unfold wpOp
  rw [hoi]
  simp only [hwant S ρ w a hT, if_true]
  refine .inl ?_
  unfold Oper.wp
  rw [hrun']
  show K (a.put o.dst v') w'
  have hd' : dstOf ops i = o.dst := by simp [dstOf, hoi]
  rw [← hd']
  have hSame : ∀ b, S b → w'.heap[b]? = w.heap[b]? := fun b hb => hres.block b (hH.lt b hb) (fun e => by
    obtain ⟨j, l, _, _, _, hn0, hlb, hbl⟩ := hold b e.symm
    exact (hbl.lt hn0).2.2 (by rw [hlb]; exact hb))
  have hext : ∀ j l, ρ j = some l → (ρ.set d l') j = some l := fun j l h => by
    by_cases e : j = d
    · subst e; rw [hρd] at h; cases h
    · simp [Rho.set, e, h]
  have hH' : ∀ j b, hget (hdels H (wsOf ws i)) j = some b → hget H j = some b ∧ sid ≠ some j ∧ j ≠ d := fun j b hg => by
    rw [hget_hdels] at hg
    split at hg
    · cases hg
    · rename_i hnm
      obtain ⟨l, hl, _⟩ := hH.get j b hg
      refine ⟨hg, fun e => hnm (by rw [hw, e]; simp), fun e => ?_⟩
      subst e; rw [hρd] at hl; cases hl
  have hother : ∀ j b l, hget (hdels H (wsOf ws i)) j = some b → ρ j = some l → l.n ≠ 0 → some l.b ≠ old := fun j b l hg hl hn0 e => by
    obtain ⟨hg1, hne, _⟩ := hH' j b hg
    obtain ⟨j', l2, hid, hg2, hl2, hn2, hlb, hbl⟩ := hold l.b e.symm
    exact hH.inj j j' b _ l l2 hg1 hg2 (by rintro rfl; exact hne hid) hl hl2 hn0 hn2 hlb.symm
  have e1 : (ρ.set d l') d = some l' := by simp [Rho.set]
  refine hn v' w' S (ρ.set d l') ⟨⟨hres.os, hres.tape, hres.output, hres.size, hres.drawn, fun k hk hbk => hres.block k hk (fun e => hbk ?_)⟩, fun _ h => h, fun _ h => .inl h, fun id hid => ?_, fun c x hr => hr.mono (fun _ h => h) hSame hext, ⟨fun j b hg => ?_, fun j j' b b' l l2 hgi hgj hne hli hlj hn1 hn2 => ?_, fun b hb => Nat.lt_of_lt_of_le (hH.lt b hb) hres.size⟩, ?_⟩
  · obtain ⟨j, l, _, _, _, hn0, hlb, hbl⟩ := hold k e.symm
    rw [← hlb]
    exact (hbl.lt hn0).2.1
  · rw [hids] at hid
    simp only [List.mem_singleton] at hid
    simp [Rho.set, hid]
  · simp only [List.cons_append, List.nil_append, hget] at hg
    by_cases e : d = j
    · subst e
      rw [Nat.beq_refl] at hg
      cases hg
      exact ⟨l', e1, hres.blk _⟩
    · rw [nbeq_ne e] at hg
      simp only [cond] at hg
      obtain ⟨hg1, _, _⟩ := hH' j b hg
      obtain ⟨l, hl, hbl⟩ := hH.get j b hg1
      exact ⟨l, hext j l hl, hbl.mono (fun _ h => h) hSame hext fun hn0 => ⟨hres.block _ (hbl.lt hn0).1 (hother j b l hg hl hn0), (hbl.lt hn0).2.2⟩⟩
  · have sep : ∀ j b l, hget (hdels H (wsOf ws i)) j = some b → ρ j = some l → l.n ≠ 0 → l'.n ≠ 0 → l.b ≠ l'.b := fun j b l hg hl hn0 hn' e => by
      rcases hres.at_ hn' with h | h
      · exact hother j b l hg hl hn0 (by rw [e]; exact h)
      · obtain ⟨hg1, _, _⟩ := hH' j b hg
        obtain ⟨l3, hl3, hbl⟩ := hH.get j b hg1
        rw [hl] at hl3; cases hl3
        have := (hbl.lt hn0).1
        omega
    simp only [List.cons_append, List.nil_append, hget] at hgi hgj
    by_cases ei : d = j
    · subst ei
      rw [e1] at hli; cases hli
      rw [nbeq_ne hne] at hgj
      have hlj' : ρ j' = some l2 := by simpa [Rho.set, Ne.symm hne] using hlj
      exact (sep j' b' l2 hgj hlj' hn2 hn1).symm
    · rw [nbeq_ne ei] at hgi
      have hli' : ρ j = some l := by simpa [Rho.set, Ne.symm ei] using hli
      by_cases ej : d = j'
      · subst ej
        rw [e1] at hlj; cases hlj
        exact sep j b l hgi hli' hn1 hn2
      · rw [nbeq_ne ej] at hgj
        have hlj' : ρ j' = some l2 := by simpa [Rho.set, Ne.symm ej] using hlj
        exact hH.inj j j' b b' l l2 (hH' _ _ hgi).1 (hH' _ _ hgj).1 hne hli' hlj' hn1 hn2
  · rcases hres.val with ⟨cap, rfl, h1, h2⟩ | ⟨rfl, h1, h2⟩
    · exact .ful d cap l' e1 h1 h2
    · exact .fulN d l' e1 h1 h2

theorem fact_eval {ops : Array Oper} {Q : Exit → Act → World → Prop} {ws : List (Nat × Nat)} {i : Nat} {T : Nat → AV U El} {h : Heap U El} {v : AV U El} {nw : Heap U El} (hX : CtxOk P X) (hoi : ops[i]? = some o) (hdst : o.dst = some d) (hw : wsOf ws i = [])
    (hwant : ∀ (S : Nat → Prop) (ρ : Rho) (w : World) (a : Act), (∀ x ∈ looksOf ops i, Rel X.E S ρ w (T x) (a.tmps.getD x undef)) → Region.wanted o (yielded ops a.tmps) = true) {t : Tmps U El} (ht : ∀ x, tget t x = T x)
    (hall : ∀ k : Out U El → Option (Fin U El), evalOp X o t (hfil (sfOf ops ws i) h) d k = k ⟨v, nw⟩) : OpFact P X ops Q ws i T h v nw := by
  intro S ρ w a B H K hdef hsz hB hG hT hH hs hfr hn
  have hids : idsOf ops i = newIds o d := by simp [idsOf, hoi, hdst]
  have hlo : looksOf ops i = Oper.looks (ops.toList.map (·.dst)) o := by simp [looksOf, hoi]
  have hT' : TRel X.E S ρ w o t a := fun x hx => by
    rw [ht x]
    exact hT x (by rw [hlo]; exact looks_op hx)
  have hs' : ∀ id b, hget (hfil (sfOf ops ws i) h) id = some b → hget H id = some b := fun id b hg => by
    rw [hget_hfil] at hg
    split at hg
    · rename_i hsf; exact hs id b hsf hg
    · cases hg
  rw [hids] at hfr hn
  classical
  obtain ⟨out', ho1, ho2⟩ := evalOp_sound (P := P) (r := ((.any, []) : Fin U El)) (k := fun x => if x = ⟨v, nw⟩ then some ((.any, []) : Fin U El) else none) hX (by rw [hall]; simp) hT' hH hs' hfr (hG w (Fr.refl B w))
  have : out' = ⟨v, nw⟩ := by
    by_cases e : out' = ⟨v, nw⟩
    · exact e
    · simp [e] at ho1
  subst this
  unfold wpOp
  rw [hoi]
  simp only [hwant S ρ w a hT, if_true]
  refine .inl (ho2 K Q fun v' w' S' ρ' h1 h2 h3 h4 h5 => ?_)
  have hd' : dstOf ops i = o.dst := by simp [dstOf, hoi]
  rw [← hd']
  refine hn v' w' S' ρ' ⟨h1.fr.mono hB, h1.s1, fun b hb => ?_, h5, fun c x hr => h1.rel hr, ?_, h2⟩
  · rcases h1.s2 b hb with h | h
    · exact .inl h
    · exact .inr (hB _ h)
  · rw [hw]
    exact h1.heap hH h3 hB (fun id b hg => hfr id (h4 id b hg))

theorem drawOps_trace {k : St U El → Option (Fin U El)} {ops : Array Oper} {Q : Exit → Act → World → Prop} {ws : List (Nat × Nat)} (hX : CtxOk P X) :
    ∀ (os : List Oper) (j : Nat) (t : Tmps U El) (h : Heap U El), ops.toList.drop j = os → j + os.length = ops.size → drawOps X (ops.toList.map (·.dst)) (fun i => sfOf ops ws i) ws os j t h k = some r →
    ∃ v nw T Hs st', Trace P X ops Q ws j t h k r v nw T Hs st' := by
  intro os
  induction os with
  | nil =>
    intro j t h hd hj hv
    simp only [drawOps] at hv
    simp only [List.length_nil, Nat.add_zero] at hj
    subst hj
    exact ⟨fun _ => .any, fun _ => [], fun _ => tget t, fun _ => h, _, fun _ => rfl, rfl, fun i h1 h2 => by omega, fun i h1 h2 => by omega, fun i h1 h2 => by omega, fun i h1 h2 => by omega, fun i h1 h2 => by omega, fun _ => rfl, rfl, hv⟩
  | cons o os ih =>
    intro j t h hd hj hv
    have ho : ops[j]? = some o := by
      have : (ops.toList.drop j)[0]? = some o := by rw [hd]; rfl
      rw [List.getElem?_drop] at this
      simpa using this
    have hd' : ops.toList.drop (j + 1) = os := by rw [← List.drop_drop, hd]; rfl
    have hj' : j + 1 + os.length = ops.size := by simp only [List.length_cons] at hj; omega
    have hdst : dstOf ops j = o.dst := by simp [dstOf, ho]
    have hids : idsOf ops j = newIds o (o.dst.getD 999) := by simp [idsOf, ho]
    have hlooks : looksOf ops j = Oper.looks (ops.toList.map (·.dst)) o := by simp [looksOf, ho]
    -- one step joined to the rest
    have join : ∀ (t1 : Tmps U El) (h1 : Heap U El) (av : AV U El) (nwj : Heap U El), (∀ x, tget t1 x = if dstOf ops j = some x then av else tget t x) → (∀ id, (id ∈ wsOf ws j ∨ hget nwj id ≠ none) → hget h1 id = hget nwj id) → (∀ id, ¬ (id ∈ wsOf ws j ∨ hget nwj id ≠ none) → hget h1 id = hget h id) →
        (∀ id, hget nwj id ≠ none → id ∈ idsOf ops j ∨ id ∈ wsOf ws j) → OpFact P X ops Q ws j (tget t) h av nwj →
        drawOps X (ops.toList.map (·.dst)) (fun i => sfOf ops ws i) ws os (j + 1) t1 h1 k = some r → ∃ v nw T Hs st', Trace P X ops Q ws j t h k r v nw T Hs st' := by
      intro t1 h1 av nwj ht1 hh1 hh2 hkeys hfact hv'
      obtain ⟨v, nw, T, Hs, st', htr⟩ := ih (j + 1) _ _ hd' hj' hv'
      refine ⟨fun i => if i = j then av else v i, fun i => if i = j then nwj else nw i, fun i => if i = j then tget t else T i, fun i => if i = j then h else Hs i, st', ?_⟩
      refine ⟨fun x => by simp, by simp, fun i g1 g2 x => ?_, fun i g1 g2 id => ?_, fun i g1 g2 id => ?_, fun i g1 g2 id => ?_, fun i g1 g2 => ?_, fun x => ?_, ?_, htr.endK⟩
      · by_cases e1 : i = j
        · subst e1
          rw [if_neg (by omega)]
          simp only [if_true]
          rw [htr.T0]
          exact ht1 x
        · rw [if_neg (by omega), if_neg e1, if_neg e1]
          exact htr.stepT i (by omega) g2 x
      · by_cases e1 : i = j
        · subst e1
          have e2 : ¬ (i + 1 = i) := by omega
          simp only [if_neg e2, if_true]
          rw [htr.H0]
          exact hh1 id
        · have e2 : ¬ (i + 1 = j) := by omega
          simp only [if_neg e1, if_neg e2]
          exact htr.stepH1 i (by omega) g2 id
      · by_cases e1 : i = j
        · subst e1
          have e2 : ¬ (i + 1 = i) := by omega
          simp only [if_neg e2, if_true]
          rw [htr.H0]
          exact hh2 id
        · have e2 : ¬ (i + 1 = j) := by omega
          simp only [if_neg e1, if_neg e2]
          exact htr.stepH2 i (by omega) g2 id
      · by_cases e1 : i = j
        · subst e1; simp only [if_true]; exact hkeys id
        · simp only [if_neg e1]; exact htr.keys i (by omega) g2 id
      · by_cases e1 : i = j
        · subst e1; simp only [if_true]; exact hfact
        · simp only [if_neg e1]; exact htr.fact i (by omega) g2
      · rw [if_neg (by simp only [List.length_cons] at hj; omega)]; exact htr.endT x
      · rw [if_neg (by simp only [List.length_cons] at hj; omega)]; exact htr.endH
    simp only [drawOps] at hv
    have hput : ∀ (t1 : Tmps U El) (e : Nat) (av : AV U El), o.dst = some e → (∀ x, tget t1 x = tget t x) → ∀ x, tget ((e, av) :: t1) x = if dstOf ops j = some x then av else tget t x := fun t1 e av he ht1 x => by
      rw [hdst, he]
      simp only [tget, Option.some.injEq]
      by_cases e2 : e = x
      · rw [if_pos e2, e2, Nat.beq_refl]; rfl
      · rw [if_neg e2, nbeq_ne e2]; exact ht1 x
    -- the operation itself
    have doit : ∀ (t1 : Tmps U El), (∀ x, tget t1 x = tget t x) → (∀ (S : Nat → Prop) (ρ : Rho) (w : World) (a : Act), (∀ x ∈ looksOf ops j, Rel X.E S ρ w (tget t x) (a.tmps.getD x undef)) → Region.wanted o (yielded ops a.tmps) = true) →
        withTest o t1 (fun t' => drawOp X o (sfOf ops ws j) (wsOf ws j) t' h fun t2 h2 => drawOps X (ops.toList.map (·.dst)) (fun i => sfOf ops ws i) ws os (j + 1) t2 h2 k) = some r → ∃ v nw T Hs st', Trace P X ops Q ws j t h k r v nw T Hs st' := by
      intro t1 ht1 hwant hw
      obtain ⟨t', hk, hor⟩ := withTest_some hw
      have ht' : ∀ x, tget t' x = tget t x := by
        rcases hor with rfl | ⟨g, b, hg, rfl⟩
        · exact ht1
        · exact fun x => (refineT hg x).trans (ht1 x)
      unfold drawOp at hk
      split at hk
      · rename_i ty p v hop
        split at hk
        · rename_i id hwj hod
          obtain ⟨hnm, hk1⟩ := chk_some hk
          obtain ⟨b, old, g1, g2, g3⟩ := storeOp_one hnm hk1
          have g1' := g1
          rw [hget_hfil] at g1
          split at g1
          · rename_i hsf
            rw [hget_set, if_pos rfl, g1'] at g2
            simp only [Option.map_some] at g2
            refine join t' _ .any [(id, b)] (fun x => ?_) (fun id' hor => ?_) (fun id' hor => ?_) (fun id' hne => ?_) (fact_store hX ho hop hod hwj hwant ht' hsf g1 g3) g2
            · rw [hdst, hod]; simpa using ht' x
            · rw [hwj] at hor
              simp only [hget, List.mem_singleton] at hor ⊢
              by_cases e : id = id'
              · subst e; rw [Nat.beq_refl]; rfl
              · rw [nbeq_ne e] at hor ⊢
                simp only [cond] at hor
                rcases hor with h | h
                · exact absurd h.symm e
                · exact absurd rfl h
            · rw [hwj] at hor
              simp only [hget, List.mem_singleton, not_or] at hor ⊢
              rw [nbeq_ne (Ne.symm hor.1)]
              simp only [cond, hget_del, if_neg hor.1]
            · right
              rw [hwj]
              simp only [hget] at hne
              by_cases e : id = id'
              · simp [e]
              · rw [nbeq_ne e] at hne; exact absurd rfl hne
          · cases g1
        · cases hk
      · rename_i ty m ix x hop
        split at hk
        · rename_i id hwj hod
          obtain ⟨hnm, hk1⟩ := chk_some hk
          obtain ⟨b, old, g1, g2, g3⟩ := mupdOp_one hnm hk1
          have g1' := g1
          rw [hget_hfil] at g1
          split at g1
          · rename_i hsf
            rw [hget_set, if_pos rfl, g1'] at g2
            simp only [Option.map_some] at g2
            refine join t' _ .any [(id, b)] (fun x => ?_) (fun id' hor => ?_) (fun id' hor => ?_) (fun id' hne => ?_) (fact_mupd hX ho hop hod hwj hwant ht' hsf g1 g3) g2
            · rw [hdst, hod]; simpa using ht' x
            · rw [hwj] at hor
              simp only [hget, List.mem_singleton] at hor ⊢
              by_cases e : id = id'
              · subst e; rw [Nat.beq_refl]; rfl
              · rw [nbeq_ne e] at hor ⊢
                simp only [cond] at hor
                rcases hor with h | h
                · exact absurd h.symm e
                · exact absurd rfl h
            · rw [hwj] at hor
              simp only [hget, List.mem_singleton, not_or] at hor ⊢
              rw [nbeq_ne (Ne.symm hor.1)]
              simp only [cond, hget_del, if_neg hor.1]
            · right
              rw [hwj]
              simp only [hget] at hne
              by_cases e : id = id'
              · simp [e]
              · rw [nbeq_ne e] at hne; exact absurd rfl hne
          · cases g1
        · cases hk
      · rename_i as ts hop
        split at hk
        · rename_i s x ty ty' d has hts hod
          split at hk
          · rename_i u htd
            split at hk
            · rename_i xs sid ys hxs hys
              obtain ⟨hck, hk1⟩ := chk_some hk
              simp only [Bool.and_eq_true, decide_eq_true_eq, nle] at hck
              obtain ⟨⟨⟨hty, hwj⟩, hb⟩, hm⟩ := hck
              obtain rfl := Nat.eq_of_beq_eq_true hty
              have ha : as = #[s, x] := by apply Array.ext'; simpa using has
              have hts' : ts = #[ty, ty] := by apply Array.ext'; simpa using hts
              subst ha hts'
              refine join _ _ (.ful d) [(d, .rows u (xs ++ ys))] (hput t' d _ hod ht') (fun id' hor => ?_) (fun id' hor => ?_) (fun id' hne => ?_) (fact_append hX ho hop hod hwj hwant ht' htd hxs hys hb hm) hk1
              · simp only [hget]
                by_cases e : d = id'
                · subst e; rw [Nat.beq_refl]; rfl
                · rw [nbeq_ne e]
                  simp only [hget, nbeq_ne e, cond] at hor
                  simp only [cond]
                  rcases hor with h | h
                  · rw [hget_hdels, if_pos h]
                  · exact absurd rfl h
              · simp only [hget, not_or] at hor ⊢
                by_cases e : d = id'
                · subst e; rw [Nat.beq_refl] at hor; exact absurd (by simp) hor.2
                · rw [nbeq_ne e]
                  simp only [cond]
                  rw [hget_hdels, if_neg hor.1]
              · left
                rw [hids, hod]
                simp only [newIds, hop, Option.getD_some, List.mem_singleton]
                simp only [hget] at hne
                by_cases e : d = id'
                · exact e.symm
                · rw [nbeq_ne e] at hne; exact absurd rfl hne
            · cases hk
          · cases hk
        · cases hk
      · split at hk
        · rename_i d hwj hod
          obtain ⟨out, hk', hall⟩ := (evalOp_det (X := X) (o := o) (t := t') (h := hfil (sfOf ops ws j) h) (d := d) (fun f vs => by obtain ⟨oo, h⟩ := hX.det f vs; exact ⟨oo, fun k => h (fun r e => k (r, e))⟩)).k hk
          obtain ⟨hck, hk1⟩ := chk_some hk'
          refine join _ _ out.v out.new (hput t' d _ hod ht') (fun id' hor => ?_) (fun id' hor => ?_) (fun id' hne => ?_) (fact_eval hX ho hod hwj hwant ht' hall) hk1
          · rw [hwj] at hor
            have hne := hor.resolve_left (by simp)
            rw [hget_append]
            cases he : hget out.new id' with
            | some b => rfl
            | none => exact absurd he hne
          · rw [hget_append]
            cases he : hget out.new id' with
            | some b => exact absurd (.inr (by rw [he]; simp)) hor
            | none => rfl
          · left
            rw [hids, hod]
            simp only [Option.getD_some]
            have key : ∀ (l : Heap U El), (l.all fun p => (newIds o d).contains p.1) = true → hget l id' ≠ none → id' ∈ newIds o d := by
              intro l
              induction l with
              | nil => intro _ h; exact absurd rfl h
              | cons p l ih =>
                intro h1 h2
                obtain ⟨q, b⟩ := p
                simp only [List.all_cons, Bool.and_eq_true] at h1
                simp only [hget] at h2
                by_cases e : q = id'
                · subst e; simpa [List.contains_eq_mem] using h1.1
                · rw [nbeq_ne e] at h2; exact ih h1.2 h2
            exact key _ hck hne
        · cases hk
    unfold guardOf at hv
    cases hgd : o.guard with
    | none =>
      rw [hgd] at hv
      simp only at hv
      exact doit t (fun _ => rfl) (fun _ _ _ _ _ => by simp [Region.wanted, hgd]) hv
    | some jw =>
      obtain ⟨gj, want⟩ := jw
      rw [hgd] at hv
      simp only at hv
      split at hv
      · rename_i h; cases h
      · rename_i g want' heq
        simp only [Option.some.injEq, Prod.mk.injEq] at heq
        obtain ⟨hdg, rfl⟩ := heq
        have skip : ∀ (t1 : Tmps U El), (∀ x, tget t1 x = tget t x) → (∀ (S : Nat → Prop) (ρ : Rho) (w : World) (a : Act), (∀ x ∈ looksOf ops j, Rel X.E S ρ w (tget t x) (a.tmps.getD x undef)) → Region.wanted o (yielded ops a.tmps) = false) →
            (match o.dst, wsOf ws j with | some d, [] => drawOps X (ops.toList.map (·.dst)) (fun i => sfOf ops ws i) ws os (j + 1) ((d, .tup []) :: t1) h k | _, _ => none) = some r → ∃ v nw T Hs st', Trace P X ops Q ws j t h k r v nw T Hs st' := by
          intro t1 ht1 hwant hv'
          split at hv'
          · rename_i e hod hwj
            refine join _ h (.tup []) [] (hput t1 e _ hod ht1) (fun id' hor => ?_) (fun _ _ => rfl) (fun id' hne => absurd rfl hne) ?_ hv'
            · rw [hwj] at hor
              rcases hor with h | h
              · cases h
              · exact absurd rfl h
            · intro S ρ w a B H K hdef hsz hB hG hT hH hs hfr hn
              unfold wpOp
              rw [ho]
              simp only [hwant S ρ w a hT, Bool.false_eq_true, if_false]
              have := hn undef w S ρ ⟨Fr.refl B w, fun _ h => h, fun _ h => .inl h, fun _ _ => rfl, fun _ _ h => h, by rw [hwj]; exact hH, undef_rel⟩
              rw [hdst] at this
              exact this
          · cases hv'
        rcases gbranch_some hv with ⟨b, hb, hv'⟩ | ⟨hb, hv'⟩
        · have hwb : ∀ (S : Nat → Prop) (ρ : Rho) (w : World) (a : Act), (∀ x ∈ looksOf ops j, Rel X.E S ρ w (tget t x) (a.tmps.getD x undef)) → Region.wanted o (yielded ops a.tmps) = (!(Bool.xor b want)) := fun S ρ w a hT => by
            have := hT g (by rw [hlooks]; exact looks_guard hgd hdg)
            rw [hb] at this
            generalize hq : a.tmps.getD g undef = q at this
            cases this
            exact guard_some hgd hdg hq
          cases hx : Bool.xor b want with
          | true =>
            rw [hx] at hv'
            simp only [cond] at hv'
            exact skip _ (refineT hb) (fun S ρ w a hT => by rw [hwb S ρ w a hT, hx]; rfl) hv'
          | false =>
            rw [hx] at hv'
            simp only [cond] at hv'
            exact doit _ (refineT hb) (fun S ρ w a hT => by rw [hwb S ρ w a hT, hx]; rfl) hv'
        · have hx : Bool.xor (!want) want = true := by cases want <;> rfl
          rw [hx] at hv'
          simp only [cond] at hv'
          refine skip t (fun _ => rfl) (fun S ρ w a hT => ?_) hv'
          have := hT g (by rw [hlooks]; exact looks_guard hgd hdg)
          rw [hb] at this
          exact guard_undef hgd hdg (rel_undef this)
      · cases hv
end
end Go.Proofs.YtnhmhcobpbilhaaDoor
