/- The boxes of two to four points, kept from call to call. -/
import Derived.Test.YtcabnkclelgoeaaD
namespace Go.Proofs.Ytcabnkclelgoeaa
set_option linter.unusedSimpArgs false
set_option linter.unusedVariables false
open Go.ChangeShapes Go.WideShapes Go.ChangeAt Go.RowKit

def One (w : World) (n : Nat) (a1 a2 : Int) : Prop := n + 1 ≤ w.heap.size ∧ w.cell? ⟨n, 0, none⟩ = some (.int .i64 a1) ∧ w.cell? ⟨n, 1, none⟩ = some (.int .i64 a2)
theorem One.below {w w' : World} {n : Nat} {a1 a2 : Int} (h : One w n a1 a2) (hb : Below w.heap.size w w') : One w' n a1 a2 := by
  obtain ⟨hn, e1, e2⟩ := h
  refine ⟨Nat.le_trans hn hb.size, (hb.cell (by simp; omega)).trans e1, (hb.cell (by simp; omega)).trans e2⟩
theorem One.lts {w : World} {n : Nat} {a1 a2 : Int} (h : One w n a1 a2) : n < w.heap.size := by
  have := h.1
  omega
theorem One.drewN {w : World} {n k : Nat} {a1 a2 : Int} (h : One w n a1 a2) : One (w.drewN k) n a1 a2 := h
theorem One.drew {w : World} {n : Nat} {a1 a2 : Int} (h : One w n a1 a2) : One w.drew n a1 a2 := h
theorem One.alloc {w : World} {n : Nat} {a1 a2 : Int} (h : One w n a1 a2) (o : Obj) : One (w.alloc o) n a1 a2 := h.below ((Below.refl _ _).alloc (Nat.le_refl _) o)
theorem One.start (w : World) (t : TypeId) (a1 a2 : Int) : One (w.alloc (.cells #[.int .i64 a1, .int .i64 a2] t)) w.heap.size a1 a2 := by
  refine ⟨by simp, ?_, ?_⟩ <;> (go_simp; done)

def Two (w : World) (n : Nat) (a1 a2 b1 b2 : Int) : Prop := n + 2 ≤ w.heap.size ∧ w.cell? ⟨n, 0, none⟩ = some (.int .i64 a1) ∧ w.cell? ⟨n, 1, none⟩ = some (.int .i64 a2) ∧ w.cell? ⟨n + 1, 0, none⟩ = some (.int .i64 b1) ∧ w.cell? ⟨n + 1, 1, none⟩ = some (.int .i64 b2)
theorem Two.below {w w' : World} {n : Nat} {a1 a2 b1 b2 : Int} (h : Two w n a1 a2 b1 b2) (hb : Below w.heap.size w w') : Two w' n a1 a2 b1 b2 := by
  obtain ⟨hn, e1, e2, e3, e4⟩ := h
  refine ⟨Nat.le_trans hn hb.size, (hb.cell (by simp; omega)).trans e1, (hb.cell (by simp; omega)).trans e2, (hb.cell (by simp; omega)).trans e3, (hb.cell (by simp; omega)).trans e4⟩
theorem Two.lts {w : World} {n : Nat} {a1 a2 b1 b2 : Int} (h : Two w n a1 a2 b1 b2) : n < w.heap.size ∧ n + 1 < w.heap.size := by
  have := h.1
  omega
theorem Two.drewN {w : World} {n k : Nat} {a1 a2 b1 b2 : Int} (h : Two w n a1 a2 b1 b2) : Two (w.drewN k) n a1 a2 b1 b2 := h
theorem Two.drew {w : World} {n : Nat} {a1 a2 b1 b2 : Int} (h : Two w n a1 a2 b1 b2) : Two w.drew n a1 a2 b1 b2 := h
theorem Two.alloc {w : World} {n : Nat} {a1 a2 b1 b2 : Int} (h : Two w n a1 a2 b1 b2) (o : Obj) : Two (w.alloc o) n a1 a2 b1 b2 := h.below ((Below.refl _ _).alloc (Nat.le_refl _) o)
theorem Two.start (w : World) (t : TypeId) (a1 a2 b1 b2 : Int) : Two ((w.alloc (.cells #[.int .i64 a1, .int .i64 a2] t)).alloc (.cells #[.int .i64 b1, .int .i64 b2] t)) w.heap.size a1 a2 b1 b2 := by
  refine ⟨by simp, ?_, ?_, ?_, ?_⟩ <;> (go_simp; done)

def Three (w : World) (n : Nat) (a1 a2 b1 b2 c1 c2 : Int) : Prop := n + 3 ≤ w.heap.size ∧ w.cell? ⟨n, 0, none⟩ = some (.int .i64 a1) ∧ w.cell? ⟨n, 1, none⟩ = some (.int .i64 a2) ∧ w.cell? ⟨n + 1, 0, none⟩ = some (.int .i64 b1) ∧ w.cell? ⟨n + 1, 1, none⟩ = some (.int .i64 b2) ∧ w.cell? ⟨n + 1 + 1, 0, none⟩ = some (.int .i64 c1) ∧ w.cell? ⟨n + 1 + 1, 1, none⟩ = some (.int .i64 c2)
theorem Three.below {w w' : World} {n : Nat} {a1 a2 b1 b2 c1 c2 : Int} (h : Three w n a1 a2 b1 b2 c1 c2) (hb : Below w.heap.size w w') : Three w' n a1 a2 b1 b2 c1 c2 := by
  obtain ⟨hn, e1, e2, e3, e4, e5, e6⟩ := h
  refine ⟨Nat.le_trans hn hb.size, (hb.cell (by simp; omega)).trans e1, (hb.cell (by simp; omega)).trans e2, (hb.cell (by simp; omega)).trans e3, (hb.cell (by simp; omega)).trans e4, (hb.cell (by simp; omega)).trans e5, (hb.cell (by simp; omega)).trans e6⟩
theorem Three.lts {w : World} {n : Nat} {a1 a2 b1 b2 c1 c2 : Int} (h : Three w n a1 a2 b1 b2 c1 c2) : n < w.heap.size ∧ n + 1 < w.heap.size ∧ n + 1 + 1 < w.heap.size := by
  have := h.1
  omega
theorem Three.drewN {w : World} {n k : Nat} {a1 a2 b1 b2 c1 c2 : Int} (h : Three w n a1 a2 b1 b2 c1 c2) : Three (w.drewN k) n a1 a2 b1 b2 c1 c2 := h
theorem Three.drew {w : World} {n : Nat} {a1 a2 b1 b2 c1 c2 : Int} (h : Three w n a1 a2 b1 b2 c1 c2) : Three w.drew n a1 a2 b1 b2 c1 c2 := h
theorem Three.alloc {w : World} {n : Nat} {a1 a2 b1 b2 c1 c2 : Int} (h : Three w n a1 a2 b1 b2 c1 c2) (o : Obj) : Three (w.alloc o) n a1 a2 b1 b2 c1 c2 := h.below ((Below.refl _ _).alloc (Nat.le_refl _) o)
theorem Three.start (w : World) (t : TypeId) (a1 a2 b1 b2 c1 c2 : Int) : Three (((w.alloc (.cells #[.int .i64 a1, .int .i64 a2] t)).alloc (.cells #[.int .i64 b1, .int .i64 b2] t)).alloc (.cells #[.int .i64 c1, .int .i64 c2] t)) w.heap.size a1 a2 b1 b2 c1 c2 := by
  refine ⟨by simp, ?_, ?_, ?_, ?_, ?_, ?_⟩ <;> (go_simp; done)

def Four (w : World) (n : Nat) (a1 a2 b1 b2 c1 c2 d1 d2 : Int) : Prop := n + 4 ≤ w.heap.size ∧ w.cell? ⟨n, 0, none⟩ = some (.int .i64 a1) ∧ w.cell? ⟨n, 1, none⟩ = some (.int .i64 a2) ∧ w.cell? ⟨n + 1, 0, none⟩ = some (.int .i64 b1) ∧ w.cell? ⟨n + 1, 1, none⟩ = some (.int .i64 b2) ∧ w.cell? ⟨n + 1 + 1, 0, none⟩ = some (.int .i64 c1) ∧ w.cell? ⟨n + 1 + 1, 1, none⟩ = some (.int .i64 c2) ∧ w.cell? ⟨n + 1 + 1 + 1, 0, none⟩ = some (.int .i64 d1) ∧ w.cell? ⟨n + 1 + 1 + 1, 1, none⟩ = some (.int .i64 d2)
theorem Four.below {w w' : World} {n : Nat} {a1 a2 b1 b2 c1 c2 d1 d2 : Int} (h : Four w n a1 a2 b1 b2 c1 c2 d1 d2) (hb : Below w.heap.size w w') : Four w' n a1 a2 b1 b2 c1 c2 d1 d2 := by
  obtain ⟨hn, e1, e2, e3, e4, e5, e6, e7, e8⟩ := h
  refine ⟨Nat.le_trans hn hb.size, (hb.cell (by simp; omega)).trans e1, (hb.cell (by simp; omega)).trans e2, (hb.cell (by simp; omega)).trans e3, (hb.cell (by simp; omega)).trans e4, (hb.cell (by simp; omega)).trans e5, (hb.cell (by simp; omega)).trans e6, (hb.cell (by simp; omega)).trans e7, (hb.cell (by simp; omega)).trans e8⟩
theorem Four.lts {w : World} {n : Nat} {a1 a2 b1 b2 c1 c2 d1 d2 : Int} (h : Four w n a1 a2 b1 b2 c1 c2 d1 d2) : n < w.heap.size ∧ n + 1 < w.heap.size ∧ n + 1 + 1 < w.heap.size ∧ n + 1 + 1 + 1 < w.heap.size := by
  have := h.1
  omega
theorem Four.drewN {w : World} {n k : Nat} {a1 a2 b1 b2 c1 c2 d1 d2 : Int} (h : Four w n a1 a2 b1 b2 c1 c2 d1 d2) : Four (w.drewN k) n a1 a2 b1 b2 c1 c2 d1 d2 := h
theorem Four.drew {w : World} {n : Nat} {a1 a2 b1 b2 c1 c2 d1 d2 : Int} (h : Four w n a1 a2 b1 b2 c1 c2 d1 d2) : Four w.drew n a1 a2 b1 b2 c1 c2 d1 d2 := h
theorem Four.alloc {w : World} {n : Nat} {a1 a2 b1 b2 c1 c2 d1 d2 : Int} (h : Four w n a1 a2 b1 b2 c1 c2 d1 d2) (o : Obj) : Four (w.alloc o) n a1 a2 b1 b2 c1 c2 d1 d2 := h.below ((Below.refl _ _).alloc (Nat.le_refl _) o)
theorem Four.start (w : World) (t : TypeId) (a1 a2 b1 b2 c1 c2 d1 d2 : Int) : Four ((((w.alloc (.cells #[.int .i64 a1, .int .i64 a2] t)).alloc (.cells #[.int .i64 b1, .int .i64 b2] t)).alloc (.cells #[.int .i64 c1, .int .i64 c2] t)).alloc (.cells #[.int .i64 d1, .int .i64 d2] t)) w.heap.size a1 a2 b1 b2 c1 c2 d1 d2 := by
  refine ⟨by simp, ?_, ?_, ?_, ?_, ?_, ?_, ?_, ?_⟩ <;> (go_simp; done)

/-- a box of two numbers that may be written -/
def Out (w : World) (b : Nat) (x y : Int) : Prop := b < w.heap.size ∧ w.cell? ⟨b, 0, none⟩ = some (.int .i64 x) ∧ w.cell? ⟨b, 1, none⟩ = some (.int .i64 y) ∧ w.frozen? ⟨b, 0, none⟩ = false ∧ w.frozen? ⟨b, 1, none⟩ = false
theorem Out.below {w w' : World} {b : Nat} {x y : Int} (h : Out w b x y) (hb : Below w.heap.size w w') : Out w' b x y := by
  obtain ⟨hn, h1, h2, h3, h4⟩ := h
  exact ⟨Nat.lt_of_lt_of_le hn hb.size, (hb.cell (by simpa using hn)).trans h1, (hb.cell (by simpa using hn)).trans h2, (hb.frozen (by simpa using hn)).trans h3, (hb.frozen (by simpa using hn)).trans h4⟩
theorem Out.alloc {w : World} {b : Nat} {x y : Int} (h : Out w b x y) (o : Obj) : Out (w.alloc o) b x y := h.below ((Below.refl _ _).alloc (Nat.le_refl _) o)
theorem Out.start (w : World) (t : TypeId) (x y : Int) (b : Nat) (hb : b = w.heap.size) : Out (w.alloc (.cells #[.int .i64 x, .int .i64 y] t)) b x y := by
  subst hb
  refine ⟨by simp, ?_, ?_, ?_, ?_⟩ <;> (go_simp; done)
end Go.Proofs.Ytcabnkclelgoeaa
