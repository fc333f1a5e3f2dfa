/- Slices of points that the call itself makes by append. -/
import Derived.Test.YtcabnkclelgoeaaU
namespace Go.Proofs.Ytcabnkclelgoeaa
set_option linter.unusedSimpArgs false
set_option linter.unusedVariables false
open Go.ChangeShapes Go.WideShapes Go.ChangeAt Go.RowKit

def flatP : List (Int × Int) → List Value
  | [] => []
  | q :: l => .int .i64 q.1 :: .int .i64 q.2 :: flatP l
theorem flatP_append (l m : List (Int × Int)) : flatP (l ++ m) = flatP l ++ flatP m := by
  induction l with
  | nil => rfl
  | cons q l ih => simp [flatP, ih]
theorem flatP_length (l : List (Int × Int)) : (flatP l).length = l.length * 2 := by
  induction l with
  | nil => rfl
  | cons q l ih => simp [flatP, ih]; omega
theorem flatP_get (l : List (Int × Int)) (i : Nat) (h : i < l.length) : (flatP l)[i * 2]? = some (.int .i64 (l.getD i (0, 0)).1) ∧ (flatP l)[i * 2 + 1]? = some (.int .i64 (l.getD i (0, 0)).2) := by
  induction l generalizing i with
  | nil => simp at h
  | cons q l ih =>
    cases i with
    | zero => simp [flatP]
    | succ i =>
      have := ih i (by simpa using h)
      rw [show (i + 1) * 2 = i * 2 + 1 + 1 by omega]
      simpa [flatP] using this

def OwnP (w : World) (base : Nat) (v : Value) (l : List (Int × Int)) : Prop := w.ownsRow base 23 2 v l.length (flatP l)

theorem OwnP.nil (w : World) (base : Nat) : OwnP w base (.slice none 0 0) [] := ⟨rfl, .inl ⟨rfl, rfl⟩⟩
theorem OwnP.pts {w : World} {base : Nat} {v : Value} {l : List (Int × Int)} (h : OwnP w base v l) (hl : 0 < l.length) :
    ∃ g cap, v = .slice (some ⟨g, 0, none⟩) l.length cap ∧ base ≤ g ∧ g < w.heap.size ∧ l.length ≤ cap ∧ cap ≤ maxLen ∧ PtsAt w g 0 l := by
  obtain ⟨h1, h2⟩ := h
  rcases h2 with ⟨_, h2⟩ | ⟨g, cap, cur, hv, hg, hc, hn, hm, hs, ht⟩
  · omega
  · refine ⟨g, cap, hv, hg, ?_, hn, hm, ?_⟩
    · exact (Array.getElem?_eq_some_iff.1 hc).1
    · intro i hi
      have hfp := flatP_get l i hi
      rw [← ht] at hfp
      have hk : ∀ j u, (cur.toList.take (l.length * 2))[j]? = some u → w.cell? ⟨g, j, none⟩ = some u := by
        intro j u hu
        rw [List.getElem?_take] at hu
        split at hu
        · simp only [World.cell?, hc]
          simpa using hu
        · simp at hu
      exact ⟨by rw [Nat.zero_add]; exact hk _ _ hfp.1, by rw [Nat.zero_add]; exact hk _ _ hfp.2⟩
theorem OwnP.below {w w' : World} {base : Nat} {v : Value} {l : List (Int × Int)} (h : OwnP w base v l) (hb : Below w.heap.size w w') : OwnP w' base v l := by
  obtain ⟨h1, h2⟩ := h
  refine ⟨h1, ?_⟩
  rcases h2 with h2 | ⟨g, cap, cur, hv, hg, hc, r⟩
  · exact .inl h2
  · exact .inr ⟨g, cap, cur, hv, hg, by rw [hb.block g (Array.getElem?_eq_some_iff.1 hc).1]; exact hc, r⟩

theorem infoPt : (Try.prog.info? 23).map (fun i => (i.zero, i.size, i.bytes)) = some (some (.agg #[.int .i64 0, .int .i64 0]), 2, 16) := by kernel_rfl

set_option maxRecDepth 100000 in
/-- append(v, one point) -/
theorem append_pt {ops : Array Oper} {rest : List Oper} {o : Oper} {a : Act} {Q : Exit → Act → World → Prop} {w : World} (hgd : o.guard = none) (s x : Operand)
    (ho : o.op = .call { callee := .builtin .append, args := #[s, x], argTypes := #[33, 33] })
    (base : Nat) (v : Value) (l : List (Int × Int)) (hs : a.eval s = v) (hown : OwnP w base v l)
    (g c : Nat) (p1 p2 : Int) (hx : a.eval x = .slice (some ⟨g, 0, none⟩) 1 c) (h1 : w.cell? ⟨g, 0, none⟩ = some (.int .i64 p1)) (h2 : w.cell? ⟨g, 1, none⟩ = some (.int .i64 p2))
    (hlen : l.length ≤ 1000000) (hbase : base ≤ w.heap.size)
    (h : ∀ v' w', OwnP w' base v' (l ++ [(p1, p2)]) → Below base w w' → w.heap.size ≤ w'.heap.size → wpList Try.prog ops Q rest (a.put o.dst v') w') : wpList Try.prog ops Q (o :: rest) a w := by
  obtain ⟨i0, hi, hz0, hz1, hz2⟩ := info_parts infoPt
  refine wpList_append_own w hgd s x _ ho base 23 i0 _ 2 16 Try.underlying33 hi hz0 hz1 hz2 rfl (by decide) v l.length (flatP l) hs hown ⟨g, 0, none⟩ 1 c [.int .i64 p1, .int .i64 p2] hx rfl ?_ ?_ ?_ ?_ hbase ?_
  · intro j u hj
    match j, hj with
    | 0, hj => simp at hj; subst hj; exact h1
    | 1, hj => simp at hj; subst hj; exact h2
  · intro u hu
    simp at hu
    rcases hu with rfl | rfl <;> rfl
  · unfold maxLen; omega
  · omega
  · intro v' w' hown' hgrow _
    refine h v' w' ?_ ?_ hgrow.size
    · have e : flatP (l ++ [(p1, p2)]) = flatP l ++ [.int .i64 p1, .int .i64 p2] := by rw [flatP_append]; rfl
      unfold OwnP
      rw [e]
      simpa using hown'
    · refine ⟨hgrow.os, hgrow.tape, hgrow.output, hgrow.size, fun k hk => hgrow.block k (by omega) ?_⟩
      intro e
      rcases hown.2 with ⟨rfl, _⟩ | ⟨g', cap, cur, rfl, hg, _⟩
      · simp [Value.ownBlock] at e
      · simp [Value.ownBlock] at e
        omega
end Go.Proofs.Ytcabnkclelgoeaa
