/- The frame of a law: its arguments opened to lists, the laid tables read, its call's outcome. -/
import Derived.Test.YtnhmhcobpbilhaaDoorV
import Derived.Test.YtnhmhcobpbilhaaDoorRows
import Derived.Test.YtnhmhcobpbilhaaDoorTie
import Derived.Test.YtnhmhcobpbilhaaDoorCards
import Derived.ProofKit
import Derived.LaidMore
import Derived.OpenShut
import Derived.Stop.Joined
import Derived.Carry
import Derived.SevenTiedAt
import Derived.Deep.Slices
import Derived.Deep.Fields
import Derived.ChangeSame
namespace Go.Proofs.YtnhmhcobpbilhaaDoor
set_option linter.unusedSectionVars false
set_option linter.unusedSimpArgs false
set_option linter.unusedVariables false
set_option maxRecDepth 100000
open Go.ChangeShapes Go.WideShapes Go.Deep Go.RowKit

theorem own : ownKnob Tryd.prog.godebug = none := by kernel_rfl
theorem laidOut : laidOutB Tryd.prog = true := by kernel_rfl

section
variable {H : Type} {enc : TypeId × Value → H} {P : Program} {w : World} {base : Nat} {spare : Nat → Bool} {held : Bool}
/-- a slice of structs, opened to the cells of its fields -/
theorem open_slice_fields {t e : TypeId} {fs : Array Field} {fuel : Nat} {cs : List Value} {x : DataW H × List MemPlace} (ht : P.underlying t = some (.slice e)) (he : P.underlying e = some (.struct fs))
    (hone : oneCellFields P fs = true) (hC : P.cellsOf e = fs.size) (h : DataW.trod enc P w base spare held fuel t cs = some x) :
    (cs = [.slice none 0 0]) ∨
    ∃ (a : Addr) (len cap m : Nat), cs = [.slice (some a) len cap] ∧ len ≤ cap ∧ len ≤ m ∧
      ∀ i, i < m → ∀ (j : Nat) (f : Field), fs[j]? = some f → ∃ (n : Nat) (v : Value) (y : DataW H × List MemPlace), w.cell? (a.add (i * fs.size + j)) = some v ∧ DataW.trod enc P w base spare held n f.type [v] = some y := by
  rcases open_slice ht h with h0 | ⟨a, len, cap, m, n, D, Pl, hcs, hb, hl, hm, hmm, hx, hi⟩
  · exact .inl h0.1
  · refine .inr ⟨a, len, cap, m, hcs, hl, by rw [hmm]; split <;> omega, fun i him j f hj => ?_⟩
    obtain ⟨cs', hc, ht'⟩ := hi i him
    rw [hC] at hc
    obtain ⟨ys, n', hn', hy, hlen, hyl, hf⟩ := DataW.trod_struct he ht'
    obtain ⟨_, hcl, hat⟩ := World.cells?_some hc
    obtain ⟨ho, hk⟩ := hone_of hone j f hj
    have hjl : j < fs.size := (Array.getElem?_eq_some_iff.1 hj).1
    have hcell := hat j hjl
    have hv : cs'[j]? = some (cs'[j]'(by omega)) := List.getElem?_eq_getElem (by omega)
    have h1 := hf j f hj
    rw [ho, hk] at h1
    have hone' : (cs'.drop j).take 1 = [cs'[j]'(by omega)] := by
      rw [List.drop_eq_getElem_cons (by omega)]
      rfl
    rw [hone'] at h1
    have hys : ys[j]? = some (ys[j]'(by omega)) := List.getElem?_eq_getElem (by omega)
    refine ⟨_, _, _, ?_, h1.trans hys⟩
    rw [← Go.Deep.add_add, hcell, hv]
end

theorem list_of {α : Type} {Q : Nat → α → Prop} : ∀ n, (∀ i, i < n → ∃ x, Q i x) → ∃ l : List α, l.length = n ∧ ∀ (i : Nat) x, l[i]? = some x → Q i x := by
  intro n
  induction n with
  | zero => intro _; exact ⟨[], rfl, by simp⟩
  | succ n ih =>
    intro h
    obtain ⟨l, hl, hq⟩ := ih (fun i hi => h i (by omega))
    obtain ⟨x, hx⟩ := h n (by omega)
    refine ⟨l ++ [x], by simp [hl], fun i y hy => ?_⟩
    by_cases hi : i < n
    · rw [List.getElem?_append_left (by omega)] at hy
      exact hq i y hy
    · rw [List.getElem?_append_right (by omega)] at hy
      have : i = n := by
        have := (List.getElem?_eq_some_iff.1 hy).1
        simp at this
        omega
      subst this
      simp [hl] at hy
      subst hy
      exact hx

theorem cell_lt' {w : World} {a : Addr} {v : Value} (h : w.cell? a = some v) : a.block < w.heap.size := by
  rcases Nat.lt_or_ge a.block w.heap.size with h' | h'
  · exact h'
  · simp [World.cell?, Array.getElem?_eq_none h'] at h

theorem fldsDf : ∃ fs : Array Field, Tryd.prog.underlying 34 = some (.struct fs) ∧ oneCellFields Tryd.prog fs = true ∧ Tryd.prog.cellsOf 34 = fs.size ∧ fs.map (·.type) = #[9, 3, 3, 3] :=
  ⟨_, Tryd.underlying34, by kernel_rfl, by kernel_rfl, by kernel_rfl⟩

/-- an argument that is a list of defects -/
theorem openDfs {H : Type} {enc : TypeId × Value → H} {w : World} {base : Nat} {spare : Nat → Bool} {held : Bool} {v : Value} {d : DataW H} {p : List MemPlace} {r : Reach} {b0 : Nat} (hv : Value.okWide Tryd.prog w r b0 22 v) (h : DataW.Trod enc Tryd.prog w base spare held 22 v d p) :
    ∃ l : List Df, Rel E (fun b => b < w.heap.size) (fun _ => none) w (.lst .df l) v := by
  obtain ⟨ao, len, cap, rfl⟩ := okWide_slice Tryd.underlying22 hv
  obtain ⟨fuel, hf⟩ := h
  obtain ⟨fs, h1, h2, h3, h4⟩ := fldsDf
  have hsz : fs.size = 4 := by have := congrArg Array.size h4; simpa using this
  rcases open_slice_fields Tryd.underlying22 h1 h2 h3 hf with hcs | ⟨a, len', cap', m, hcs, hl, hm, hi⟩
  · simp only [Value.cells, List.cons.injEq, Value.slice.injEq, and_true] at hcs
    obtain ⟨rfl, rfl, rfl⟩ := hcs
    exact ⟨[], .lstE _ _ _⟩
  · simp only [Value.cells, List.cons.injEq, Value.slice.injEq, and_true] at hcs
    obtain ⟨rfl, rfl, rfl⟩ := hcs
    have key : ∀ i, i < len → ∃ x : Df, ∀ (j : Nat) c, (E.enc .df x)[j]? = some c → ∃ v, w.cell? (a.add (i * 4 + j)) = some v ∧ Rel E (fun b => b < w.heap.size) (fun _ => none) w c v := fun i hil => by
      have ft : ∀ (j : Nat) t, (#[9, 3, 3, 3] : Array Nat)[j]? = some t → ∃ (n : Nat) (v : Value) (y : DataW H × List MemPlace), w.cell? (a.add (i * 4 + j)) = some v ∧ DataW.trod enc Tryd.prog w base spare held n t [v] = some y := fun j t ht => by
        rw [← h4, Array.getElem?_map, Option.map_eq_some_iff] at ht
        obtain ⟨f, hf, rfl⟩ := ht
        have := hi i (by omega) j f hf
        rw [hsz] at this
        exact this
      obtain ⟨n0, v0, y0, c0, t0⟩ := ft 0 9 rfl
      obtain ⟨n1, v1, y1, c1, t1⟩ := ft 1 3 rfl
      obtain ⟨n2, v2, y2, c2, t2⟩ := ft 2 3 rfl
      obtain ⟨n3, v3, y3, c3, t3⟩ := ft 3 3 rfl
      obtain ⟨s, e0, _⟩ := DataW.trod_string Tryd.underlying9 t0
      obtain ⟨z1, e1, _⟩ := DataW.trod_int Tryd.underlying3 t1
      obtain ⟨z2, e2, _⟩ := DataW.trod_int Tryd.underlying3 t2
      obtain ⟨z3, e3, _⟩ := DataW.trod_int Tryd.underlying3 t3
      cases e0; cases e1; cases e2; cases e3
      refine ⟨⟨s.data.toList, z1, z2, z3⟩, fun j c hc => ?_⟩
      match j, hc with
      | 0, hc => cases hc; exact ⟨_, c0, .str _⟩
      | 1, hc => cases hc; exact ⟨_, c1, .int _ _⟩
      | 2, hc => cases hc; exact ⟨_, c2, .int _ _⟩
      | 3, hc => cases hc; exact ⟨_, c3, .int _ _⟩
    obtain ⟨l, hlen, hq⟩ := list_of len key
    by_cases h0 : len = 0
    · subst h0
      have : l = [] := List.eq_nil_of_length_eq_zero hlen
      subst this
      exact ⟨[], .lstE _ _ _⟩
    · obtain ⟨v0, hc0, _⟩ := hq 0 l[0] (List.getElem?_eq_getElem (by omega)) 0 _ rfl
      have hlt : a.block < w.heap.size := by have := cell_lt' hc0; simpa [Addr.add] using this
      have hspot : a.spot = none := by have := World.cell?_spot hc0; simpa [Addr.add] using this
      obtain ⟨b, off, spot⟩ := a
      simp only at hspot
      subst hspot
      refine ⟨l, ?_⟩
      rw [← hlen]
      have hv : ∀ i j, ∃ v, ∀ x c, l[i]? = some x → (E.enc .df x)[j]? = some c → w.cell? ⟨b, off + i * E.sz .df + j, none⟩ = some v ∧ Rel E (fun b => b < w.heap.size) (fun _ => none) w c v := fun i j => by
        cases hx : l[i]? with
        | none => exact ⟨undef, fun x c h => by cases h⟩
        | some x =>
          cases hc : (E.enc .df x)[j]? with
          | none => exact ⟨undef, fun x' c h h' => by cases h; rw [hc] at h'; cases h'⟩
          | some c =>
            obtain ⟨v, h5, h6⟩ := hq i x hx j c hc
            refine ⟨v, fun x' c' h h' => ?_⟩
            cases h
            rw [hc] at h'; cases h'
            refine ⟨?_, h6⟩
            rw [addr_add, ← Nat.add_assoc] at h5
            exact h5
      refine .lst _ _ b off cap (fun i j => Classical.choose (hv i j)) hlt (Nat.le_trans (Nat.le_of_eq hlen) hl) (fun i x j c hx hc => (Classical.choose_spec (hv i j) x c hx hc).1) (fun i x j c hx hc => (Classical.choose_spec (hv i j) x c hx hc).2)

theorem openInt {H : Type} {enc : TypeId × Value → H} {w : World} {base : Nat} {spare : Nat → Bool} {held : Bool} {v : Value} {d : DataW H} {p : List MemPlace} {t : TypeId} {k : IntKind} (ht : Tryd.prog.underlying t = some (.int k)) {r : Reach} {b0 : Nat} (hv : Value.okWide Tryd.prog w r b0 t v) (h : DataW.Trod enc Tryd.prog w base spare held t v d p) :
    ∃ n : Int, v = .int k n := by
  obtain ⟨n, rfl, _⟩ := open_int ht hv h
  exact ⟨n, rfl⟩

/-- an argument that is a byte -/
theorem openByte {H : Type} {enc : TypeId × Value → H} {w : World} {base : Nat} {spare : Nat → Bool} {held : Bool} {v : Value} {d : DataW H} {p : List MemPlace} {t : TypeId} (ht : Tryd.prog.underlying t = some (.int .u8)) {r : Reach} {b0 : Nat} (hv : Value.okWide Tryd.prog w r b0 t v) (h : DataW.Trod enc Tryd.prog w base spare held t v d p) :
    ∃ n : Int, v = .int .u8 n ∧ (ile 0 n && ile n 255) = true := by
  obtain ⟨n, rfl, _, _, hw⟩ := open_int ht hv h
  simp only [Lit.wf, Bool.and_eq_true, decide_eq_true_eq] at hw
  have h1 : (0 : Int) ≤ n := hw.1
  have h2 : n ≤ 255 := hw.2
  exact ⟨n, rfl, Bool.and_eq_true_iff.2 ⟨decide_eq_true h1, decide_eq_true h2⟩⟩

noncomputable def gChk : Bool := match Tryd.prog.globalNamed "internal/strconv.uint64pow10" with
  | some g => match (Tryd.prog.globals[g]?).map (·.type) with
    | some t => match Tryd.prog.underlying t with
      | some (.array n e) => (match Tryd.prog.underlying e with | some (.int .u64) => true | _ => false) && Nat.beq (Tryd.prog.cellsOf e) 1 && Nat.beq (Tryd.prog.cellsOf t) n
      | _ => false
    | none => false
  | none => false
theorem gOk (h : gChk = true) : ∃ g, Tryd.prog.globalNamed "internal/strconv.uint64pow10" = some g ∧ ∃ t, (Tryd.prog.globals[g]?).map (·.type) = some t ∧ ∃ n e, Tryd.prog.underlying t = some (.array n e) ∧ Tryd.prog.underlying e = some (.int .u64) ∧ Tryd.prog.cellsOf e = 1 ∧ Tryd.prog.cellsOf t = n := by
  unfold gChk at h
  split at h
  · rename_i g hg
    split at h
    · rename_i t ht
      split at h
      · rename_i n e hu
        simp only [Bool.and_eq_true] at h
        obtain ⟨⟨h1, h2⟩, h3⟩ := h
        split at h1
        · rename_i he
          exact ⟨g, hg, t, ht, n, e, hu, he, Nat.eq_of_beq_eq_true h2, Nat.eq_of_beq_eq_true h3⟩
        · cases h1
      · cases h
    · cases h
  · cases h

/-- the laid tables, at the door -/
abbrev laidAll : List (String × DataW Unit) := [("math/bits.deBruijn32tab", Rows.laid_math_bits_deBruijn32tab), ("math/bits.deBruijn64tab", Rows.laid_math_bits_deBruijn64tab), ("internal/strconv.uint64pow10", Rows.laid_internal_strconv_uint64pow10)]
theorem of_laid {W : World} (h : laidMetH Tryd.prog laidAll W) : E.G W := by
  rw [MakeChecks.laidMetH_plain _ _ _ (by kernel_rfl)] at h
  obtain ⟨ps, ⟨g0, t0, cs0, f0, p0, q0, hg0, ht0, hv0, hd0, ⟨g1, t1, cs1, f1, p1, q1, hg1, ht1, hv1, hd1, ⟨g2, t2, cs2, f2, p2, q2, hg2, ht2, hv2, hd2, _, _⟩, _⟩, _⟩, _⟩ := h
  obtain ⟨g, hg, t, ht, n, e, hu, he, hce, hct⟩ := gOk (by kernel_rfl)
  obtain rfl := Option.some.inj (hg.symm.trans hg2)
  obtain rfl := Option.some.inj (ht.symm.trans ht2)
  show Lib.TabIs Tryd.prog W "internal/strconv.uint64pow10" .u64 Lib.pow10Tab
  unfold Lib.TabIs
  have hdd : (Rows.laid_internal_strconv_uint64pow10 : DataW Unit) = Lib.tabData .u64 Lib.pow10Tab := by rfl
  rw [hdd] at hd2
  rw [hv2, ← Lib.cells_of_tab hu he hce hct hd2]
end Go.Proofs.YtnhmhcobpbilhaaDoor
