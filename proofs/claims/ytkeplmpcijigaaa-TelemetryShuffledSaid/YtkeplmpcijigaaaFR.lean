/- The frame of a law: its arguments opened to lists. -/
import Derived.Test.YtkeplmpcijigaaaV
import Derived.Test.YtkeplmpcijigaaaRows
import Derived.ProofKit
import Derived.OpenShut
import Derived.Stop.Joined
import Derived.Carry
import Derived.Deep.Slices
import Derived.Deep.Fields
import Derived.ChangeSame
import Derived.ChangeMaps5
namespace Go.Proofs.Ytkeplmpcijigaaa
set_option linter.unusedSectionVars false
set_option linter.unusedSimpArgs false
set_option linter.unusedVariables false
set_option maxRecDepth 100000
open Go.ChangeShapes Go.WideShapes Go.Deep Go.RowKit Go.ChangeMaps

theorem own : ownKnob Try.prog.godebug = none := by kernel_rfl
theorem laidOut : laidOutB Try.prog = true := by kernel_rfl

section
variable {H : Type} {enc : TypeId × Value → H} {P : Program} {w : World} {base : Nat} {spare : Nat → Bool} {held : Bool}
/-- a slice of structs, opened to the cells of its fields -/
theorem open_slice_fields {t e : TypeId} {fs : Array Field} {fuel : Nat} {cs : List Value} {x : DataW H × List MemPlace} (ht : P.underlying t = some (.slice e)) (he : P.underlying e = some (.struct fs))
    (hone : oneCellFields P fs = true) (hC : P.cellsOf e = fs.size) (h : DataW.trod enc P w base spare held fuel t cs = some x) :
    (cs = [.slice none 0 0]) ∨
    ∃ (a : Addr) (len cap m : Nat), cs = [.slice (some a) len cap] ∧ len ≤ cap ∧ len ≤ m ∧
      ∀ i, i < m → ∀ (j : Nat) (f : Field), fs[j]? = some f → ∃ (n : Nat) (v : Value) (y : DataW H × List MemPlace), w.cell? (a.add (i * fs.size + j)) = some v ∧ DataW.trod enc P w base spare held n f.type [v] = some y := by
  rcases open_slice ht h with h0 | ⟨a, len, cap, m, n, D, Pl, hcs, hb, hl, hm, hmm, hx, hi⟩
  · exact .inl h0.1
  · refine .inr ⟨a, len, cap, m, hcs, hl, by rw [hmm]; split <;> omega, fun i him j f hj => ?_⟩
    obtain ⟨cs', hc, ht'⟩ := hi i him
    rw [hC] at hc
    obtain ⟨ys, n', hn', hy, hlen, hyl, hf⟩ := DataW.trod_struct he ht'
    obtain ⟨_, hcl, hat⟩ := World.cells?_some hc
    obtain ⟨ho, hk⟩ := hone_of hone j f hj
    have hjl : j < fs.size := (Array.getElem?_eq_some_iff.1 hj).1
    have hcell := hat j hjl
    have hv : cs'[j]? = some (cs'[j]'(by omega)) := List.getElem?_eq_getElem (by omega)
    have h1 := hf j f hj
    rw [ho, hk] at h1
    have hone' : (cs'.drop j).take 1 = [cs'[j]'(by omega)] := by
      rw [List.drop_eq_getElem_cons (by omega)]
      rfl
    rw [hone'] at h1
    have hys : ys[j]? = some (ys[j]'(by omega)) := List.getElem?_eq_getElem (by omega)
    refine ⟨_, _, _, ?_, h1.trans hys⟩
    rw [← Go.Deep.add_add, hcell, hv]
end

theorem list_of {α : Type} {Q : Nat → α → Prop} : ∀ n, (∀ i, i < n → ∃ x, Q i x) → ∃ l : List α, l.length = n ∧ ∀ (i : Nat) x, l[i]? = some x → Q i x := by
  intro n
  induction n with
  | zero => intro _; exact ⟨[], rfl, by simp⟩
  | succ n ih =>
    intro h
    obtain ⟨l, hl, hq⟩ := ih (fun i hi => h i (by omega))
    obtain ⟨x, hx⟩ := h n (by omega)
    refine ⟨l ++ [x], by simp [hl], fun i y hy => ?_⟩
    by_cases hi : i < n
    · rw [List.getElem?_append_left (by omega)] at hy
      exact hq i y hy
    · rw [List.getElem?_append_right (by omega)] at hy
      have : i = n := by
        have := (List.getElem?_eq_some_iff.1 hy).1
        simp at this
        omega
      subst this
      simp [hl] at hy
      subst hy
      exact hx

theorem cell_lt' {w : World} {a : Addr} {v : Value} (h : w.cell? a = some v) : a.block < w.heap.size := by
  rcases Nat.lt_or_ge a.block w.heap.size with h' | h'
  · exact h'
  · simp [World.cell?, Array.getElem?_eq_none h'] at h

/-- elements whose cells are known, as a list of the lift -/
theorem lst_of {u : U} {w : World} {a : Addr} {len cap : Nat} (hcap : len ≤ cap) (hsz : 0 < E.sz u) (hlen0 : ∀ x, (E.enc u x).length = E.sz u)
    (key : ∀ i, i < len → ∃ x : El u, ∀ (j : Nat) c, (E.enc u x)[j]? = some c → ∃ v, w.cell? (a.add (i * E.sz u + j)) = some v ∧ Rel E (fun b => b < w.heap.size) (fun _ => none) w c v) :
    ∃ l : List (El u), Rel E (fun b => b < w.heap.size) (fun _ => none) w (.lst u l) (.slice (some a) len cap) := by
  obtain ⟨l, hlen, hq⟩ := list_of len key
  by_cases h0 : len = 0
  · subst h0
    have : l = [] := List.eq_nil_of_length_eq_zero hlen
    subst this
    exact ⟨[], .lstE _ _ _⟩
  · have h0l : 0 < l.length := by omega
    have h1l : 0 < (E.enc u l[0]).length := by rw [hlen0 l[0]]; exact hsz
    have hc0' := List.getElem?_eq_getElem h1l
    obtain ⟨v0, hc0, _⟩ := hq 0 l[0] (List.getElem?_eq_getElem (by omega)) 0 _ hc0'
    have hlt : a.block < w.heap.size := by have := cell_lt' hc0; simpa [Addr.add] using this
    have hspot : a.spot = none := by have := World.cell?_spot hc0; simpa [Addr.add] using this
    obtain ⟨b, off, spot⟩ := a
    simp only at hspot
    subst hspot
    refine ⟨l, ?_⟩
    rw [← hlen]
    have hv : ∀ i j, ∃ v, ∀ x c, l[i]? = some x → (E.enc u x)[j]? = some c → w.cell? ⟨b, off + i * E.sz u + j, none⟩ = some v ∧ Rel E (fun b => b < w.heap.size) (fun _ => none) w c v := fun i j => by
      cases hx : l[i]? with
      | none => exact ⟨undef, fun x c h => by cases h⟩
      | some x =>
        cases hc : (E.enc u x)[j]? with
        | none => exact ⟨undef, fun x' c h h' => by cases h; rw [hc] at h'; cases h'⟩
        | some c =>
          obtain ⟨v, h5, h6⟩ := hq i x hx j c hc
          refine ⟨v, fun x' c' h h' => ?_⟩
          cases h
          rw [hc] at h'; cases h'
          refine ⟨?_, h6⟩
          rw [addr_add, ← Nat.add_assoc] at h5
          exact h5
    refine .lst _ _ b off cap (fun i j => Classical.choose (hv i j)) hlt (Nat.le_trans (Nat.le_of_eq hlen) hcap) (fun i x j c hx hc => (Classical.choose_spec (hv i j) x c hx hc).1) (fun i x j c hx hc => (Classical.choose_spec (hv i j) x c hx hc).2)

theorem flds_msg : ∃ fs : Array Field, Try.prog.underlying 33 = some (.struct fs) ∧ oneCellFields Try.prog fs = true ∧ Try.prog.cellsOf 33 = fs.size ∧ fs.map (·.type) = #[9, 3, 3, 3, 3] :=
  ⟨_, Try.underlying33, by kernel_rfl, by kernel_rfl, by kernel_rfl⟩
theorem open_msg {H : Type} {enc : TypeId × Value → H} {w : World} {base : Nat} {spare : Nat → Bool} {held : Bool} {v : Value} {d : DataW H} {p : List MemPlace} {r : Reach} {b0 : Nat} (hv : Value.okWide Try.prog w r b0 22 v) (h : DataW.Trod enc Try.prog w base spare held 22 v d p) :
    ∃ l : List (El .msg), Rel E (fun b => b < w.heap.size) (fun _ => none) w (.lst .msg l) v := by
  obtain ⟨ao, len, cap, rfl⟩ := okWide_slice Try.underlying22 hv
  obtain ⟨fuel, hf⟩ := h
  obtain ⟨fs, h1, h2, h3, h4⟩ := flds_msg
  have hsz : fs.size = 5 := by have := congrArg Array.size h4; simpa using this
  rcases open_slice_fields Try.underlying22 h1 h2 h3 hf with hcs | ⟨a, len', cap', m, hcs, hl, hm, hi⟩
  · simp only [Value.cells, List.cons.injEq, Value.slice.injEq, and_true] at hcs
    obtain ⟨rfl, rfl, rfl⟩ := hcs
    exact ⟨[], .lstE _ _ _⟩
  · simp only [Value.cells, List.cons.injEq, Value.slice.injEq, and_true] at hcs
    obtain ⟨rfl, rfl, rfl⟩ := hcs
    refine lst_of (u := .msg) hl (by decide) (fun _ => rfl) fun i hil => ?_
    have ft : ∀ (j : Nat) t, (#[9, 3, 3, 3, 3] : Array Nat)[j]? = some t → ∃ (n : Nat) (v : Value) (y : DataW H × List MemPlace), w.cell? (a.add (i * 5 + j)) = some v ∧ DataW.trod enc Try.prog w base spare held n t [v] = some y := fun j t ht => by
      rw [← h4, Array.getElem?_map, Option.map_eq_some_iff] at ht
      obtain ⟨f, hf, rfl⟩ := ht
      have := hi i (by omega) j f hf
      rw [hsz] at this
      exact this
    obtain ⟨n0, v0, y0, c0, t0⟩ := ft 0 9 rfl
    obtain ⟨n1, v1, y1, c1, t1⟩ := ft 1 3 rfl
    obtain ⟨n2, v2, y2, c2, t2⟩ := ft 2 3 rfl
    obtain ⟨n3, v3, y3, c3, t3⟩ := ft 3 3 rfl
    obtain ⟨n4, v4, y4, c4, t4⟩ := ft 4 3 rfl
    obtain ⟨s0, e0, _⟩ := DataW.trod_string Try.underlying9 t0
    obtain ⟨z1, e1, _⟩ := DataW.trod_int Try.underlying3 t1
    obtain ⟨z2, e2, _⟩ := DataW.trod_int Try.underlying3 t2
    obtain ⟨z3, e3, _⟩ := DataW.trod_int Try.underlying3 t3
    obtain ⟨z4, e4, _⟩ := DataW.trod_int Try.underlying3 t4
    cases e0; cases e1; cases e2; cases e3; cases e4
    refine ⟨⟨s0.data.toList, z1, z2, z3, z4⟩, fun j c hc => ?_⟩
    match j, hc with
    | 0, hc => cases hc; exact ⟨_, c0, .str _⟩
    | 1, hc => cases hc; exact ⟨_, c1, .int _ _⟩
    | 2, hc => cases hc; exact ⟨_, c2, .int _ _⟩
    | 3, hc => cases hc; exact ⟨_, c3, .int _ _⟩
    | 4, hc => cases hc; exact ⟨_, c4, .int _ _⟩

theorem open_bool {H : Type} {enc : TypeId × Value → H} {w : World} {base : Nat} {spare : Nat → Bool} {held : Bool} {v : Value} {d : DataW H} {p : List MemPlace} {r : Reach} {b0 : Nat} (hv : Value.okWide Try.prog w r b0 23 v) (h : DataW.Trod enc Try.prog w base spare held 23 v d p) :
    ∃ l : List (El .bool), Rel E (fun b => b < w.heap.size) (fun _ => none) w (.lst .bool l) v := by
  obtain ⟨ao, len, cap, rfl⟩ := okWide_slice Try.underlying23 hv
  obtain ⟨fuel, hf⟩ := h
  rcases open_slice1 Try.underlying23 (by kernel_rfl) hf with ⟨hcs, _⟩ | ⟨a, len', cap', m, n, V, D, Pl, hcs, _, hl, _, hm, _, hi⟩
  · simp only [Value.cells, List.cons.injEq, Value.slice.injEq, and_true] at hcs
    obtain ⟨rfl, rfl, rfl⟩ := hcs
    exact ⟨[], .lstE _ _ _⟩
  · simp only [Value.cells, List.cons.injEq, Value.slice.injEq, and_true] at hcs
    obtain ⟨rfl, rfl, rfl⟩ := hcs
    refine lst_of (u := .bool) hl (by decide) (fun _ => rfl) fun i hil => ?_
    obtain ⟨hc, ht⟩ := hi i (by rw [hm]; split <;> omega)
    obtain ⟨b, e0, _⟩ := DataW.trod_bool Try.underlying4 ht
    simp only [List.cons.injEq, and_true] at e0
    refine ⟨b, fun j c hj => ?_⟩
    match j, hj with
    | 0, hj =>
      cases hj
      refine ⟨V i, ?_, ?_⟩
      · show w.cell? (a.add (i * 1 + 0)) = _
        rw [Nat.mul_one, Nat.add_zero]
        exact hc
      · rw [e0]
        exact .bool _

theorem open_u8 {H : Type} {enc : TypeId × Value → H} {w : World} {base : Nat} {spare : Nat → Bool} {held : Bool} {v : Value} {d : DataW H} {p : List MemPlace} {r : Reach} {b0 : Nat} (hv : Value.okWide Try.prog w r b0 55 v) (h : DataW.Trod enc Try.prog w base spare held 55 v d p) :
    ∃ l : List (El .u8), Rel E (fun b => b < w.heap.size) (fun _ => none) w (.lst .u8 l) v := by
  obtain ⟨ao, len, cap, rfl⟩ := okWide_slice Try.underlying55 hv
  obtain ⟨fuel, hf⟩ := h
  rcases open_slice1 Try.underlying55 (by kernel_rfl) hf with ⟨hcs, _⟩ | ⟨a, len', cap', m, n, V, D, Pl, hcs, _, hl, _, hm, _, hi⟩
  · simp only [Value.cells, List.cons.injEq, Value.slice.injEq, and_true] at hcs
    obtain ⟨rfl, rfl, rfl⟩ := hcs
    exact ⟨[], .lstE _ _ _⟩
  · simp only [Value.cells, List.cons.injEq, Value.slice.injEq, and_true] at hcs
    obtain ⟨rfl, rfl, rfl⟩ := hcs
    refine lst_of (u := .u8) hl (by decide) (fun _ => rfl) fun i hil => ?_
    obtain ⟨hc, ht⟩ := hi i (by rw [hm]; split <;> omega)
    obtain ⟨b, e0, _, hw⟩ := DataW.trod_int Try.underlying5 ht
    simp only [List.cons.injEq, and_true] at e0
    simp only [Lit.wf, Bool.and_eq_true, decide_eq_true_eq] at hw
    have h1 : (0 : Int) ≤ b := hw.1
    have h2 : b ≤ 255 := hw.2
    have eb : Int.ofNat (UInt8.ofNat b.toNat).toNat = b := by
      rw [UInt8.toNat_ofNat']
      have : b.toNat % 2 ^ 8 = b.toNat := Nat.mod_eq_of_lt (by omega)
      rw [this]
      simp only [Int.ofNat_eq_natCast]
      omega
    refine ⟨UInt8.ofNat b.toNat, fun j c hj => ?_⟩
    match j, hj with
    | 0, hj =>
      cases hj
      refine ⟨V i, ?_, ?_⟩
      · show w.cell? (a.add (i * 1 + 0)) = _
        rw [Nat.mul_one, Nat.add_zero]
        exact hc
      · rw [e0, eb]
        exact .int _ _


theorem openInt {H : Type} {enc : TypeId × Value → H} {w : World} {base : Nat} {spare : Nat → Bool} {held : Bool} {v : Value} {d : DataW H} {p : List MemPlace} {t : TypeId} {k : IntKind} (ht : Try.prog.underlying t = some (.int k)) {r : Reach} {b0 : Nat} (hv : Value.okWide Try.prog w r b0 t v) (h : DataW.Trod enc Try.prog w base spare held t v d p) :
    ∃ n : Int, v = .int k n ∧ (Lit.int k n).wf = true := by
  obtain ⟨n, rfl, _, _, hw⟩ := open_int ht hv h
  exact ⟨n, rfl, hw⟩
theorem openStr {H : Type} {enc : TypeId × Value → H} {w : World} {base : Nat} {spare : Nat → Bool} {held : Bool} {v : Value} {d : DataW H} {p : List MemPlace} {t : TypeId} (ht : Try.prog.underlying t = some .string) {r : Reach} {b0 : Nat} (hv : Value.okWide Try.prog w r b0 t v) (h : DataW.Trod enc Try.prog w base spare held t v d p) :
    ∃ s : List UInt8, Rel E (fun b => b < w.heap.size) (fun _ => none) w (.str s) v := by
  obtain ⟨s, rfl, _⟩ := open_string ht hv h
  exact ⟨s.data.toList, .str _⟩
end Go.Proofs.Ytkeplmpcijigaaa
