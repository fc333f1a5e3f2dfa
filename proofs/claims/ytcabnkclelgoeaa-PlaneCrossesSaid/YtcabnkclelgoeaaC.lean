/- Walks of package plane: apart. -/
import Derived.Test.YtcabnkclelgoeaaB
import Derived.Deep.RegionHeld3
import Derived.Deep.DrawnRows
namespace Go.Proofs.Ytcabnkclelgoeaa
open Go.ChangeShapes Go.WideShapes Go.ChangeAt Go.RowKit
attribute [local go_sem ↓] Go.wp_at_zero Go.wp_at_succ

theorem apart_ok (a1 a2 b1 b2 c1 c2 d1 d2 : Int) (w : World) (ha : okP (a1, a2) = true) (hb : okP (b1, b2) = true) (hc : okP (c1, c2) = true) (hd : okP (d1, d2) = true) :
    Calls Try.prog 40 #[pt a1 a2, pt b1 b2, pt c1 c2, pt d1 d2] w fun e w' => e = .returned (.bool (apartB (a1, a2) (b1, b2) (c1, c2) (d1, d2))) ∧ Below w.heap.size w w' := by
  have H1 := Lib.hid (fun W => turn_ok a1 a2 b1 b2 c1 c2 W ha hb hc)
  have H2 := Lib.hid (fun W => turn_ok a1 a2 b1 b2 d1 d2 W ha hb hd)
  clear ha hb hc hd
  go_enter Try.func40, Try.ntmps40
  go_wp2
  obtain ⟨W, hW, hBW, hsW, e1, e2, f1, f2, e3, e4, f3, f4, e5, e6, f5, f6, e7, e8, f7, f8⟩ := boxes4 w 23 a1 a2 b1 b2 c1 c2 d1 d2
  rw [← hW]
  clear hW f1 f2 f3 f4 f5 f6 f7 f8
  have hs : w.heap.size + 4 ≤ W.heap.size := by omega
  clear hsW
  obtain ⟨g1, g2, g3, g4, g5, g6, g7, g8⟩ : W.drew.cell? ⟨w.heap.size, 0, none⟩ = some (.int .i64 a1) ∧ W.drew.cell? ⟨w.heap.size, 1, none⟩ = some (.int .i64 a2) ∧ W.drew.cell? ⟨w.heap.size + 1, 0, none⟩ = some (.int .i64 b1) ∧ W.drew.cell? ⟨w.heap.size + 1, 1, none⟩ = some (.int .i64 b2) ∧ W.drew.cell? ⟨w.heap.size + 1 + 1, 0, none⟩ = some (.int .i64 c1) ∧ W.drew.cell? ⟨w.heap.size + 1 + 1, 1, none⟩ = some (.int .i64 c2) ∧ W.drew.cell? ⟨w.heap.size + 1 + 1 + 1, 0, none⟩ = some (.int .i64 d1) ∧ W.drew.cell? ⟨w.heap.size + 1 + 1 + 1, 1, none⟩ = some (.int .i64 d2) := ⟨e1, e2, e3, e4, e5, e6, e7, e8⟩
  go_region_held3 (fun w' => w'.cell? ⟨w.heap.size, 0, none⟩ = some (.int .i64 a1) ∧ w'.cell? ⟨w.heap.size, 1, none⟩ = some (.int .i64 a2) ∧ w'.cell? ⟨w.heap.size + 1, 0, none⟩ = some (.int .i64 b1) ∧ w'.cell? ⟨w.heap.size + 1, 1, none⟩ = some (.int .i64 b2) ∧ w'.cell? ⟨w.heap.size + 1 + 1, 0, none⟩ = some (.int .i64 c1) ∧ w'.cell? ⟨w.heap.size + 1 + 1, 1, none⟩ = some (.int .i64 c2) ∧ w'.cell? ⟨w.heap.size + 1 + 1 + 1, 0, none⟩ = some (.int .i64 d1) ∧ w'.cell? ⟨w.heap.size + 1 + 1 + 1, 1, none⟩ = some (.int .i64 d2))
    (first
     | (refine ⟨?_, ?_, ?_, ?_, ?_, ?_, ?_, ?_⟩ <;> first | (assumption) | (refine (hb2.cell (by simp; omega)).trans ?_; first | assumption | (refine (hb1.cell (by simp; omega)).trans ?_; assumption)) | (refine (hb1.cell (by simp; omega)).trans ?_; assumption))
     | go_keep)
    (first
     | (go_at_call 42; (with_reducible refine (H1.out _).mono ?_); rintro e w1 ⟨rfl, hb1⟩; have hs1 := hb1.size; try simp at hs1)
     | (go_at_call 42; (with_reducible refine (H2.out _).mono ?_); rintro e w2 ⟨rfl, hb2⟩; have hs2 := hb2.size; try simp at hs2))
  go_wp2
  all_goals (go_returns; exact ⟨ret_bool (by apply bool_eq; simp [apartB]; omega), hBW.drew.trans ((hb1.trans (hb2.mono hs1)).mono (by simp; omega))⟩)
end Go.Proofs.Ytcabnkclelgoeaa
